/- MonitorNames: limits and errors. No condition. (printed by gen/names35.py) -/
import Derived.Test.YtepdbdckjmkbhaaGreatDoorQ25
import Derived.Test.YtepdbdckjmkbhaaGreatDoorQ26
import Derived.Deep.DeepCutAuto
import Derived.Deep.CutBlock
import Derived.Deep.RegionLaw
namespace Go.Proofs.YtepdbdckjmkbhaaGreatDoor
set_option maxRecDepth 100000
open Go.ChangeShapes Go.WideShapes Go.ChangeAt Go.RowKit
theorem wp_roundN {P : Program} {c : Code} {I : Act→World→Prop} {Q : Exit→Act→World→Prop} {a : Act} {w : World} (h : ∀ K : Act→World→Prop,(∀ a' w',I a' w'→K a' w')→c.wp P (Exit.then K Q) a w) : c.wp P (Exit.then I Q) a w:=h I (fun _ _ q=>q)
def OnlyN (K : Act→World→Prop) : Exit→Act→World→Prop
 | .normal,a,w=>K a w
 | _,_,_=>False
theorem wp_onlyN {P : Program} {c : Code} {Q : Exit→Act→World→Prop} {a : Act} {w : World} (h : ∀ K : Act→World→Prop,(∀ a' w',Q .normal a' w'→K a' w')→c.wp P (OnlyN K) a w) : c.wp P Q a w :=
 wp_mono (h (fun a' w'=>Q .normal a' w') (fun _ _ q=>q)) fun e a' w' hq=>by
  cases e with
  | normal=>exact hq
  | exit id=>exact hq.elim
  | goto l=>exact hq.elim
  | ret=>exact hq.elim
  | panic ch=>exact hq.elim
  | outgrown=>exact hq.elim
theorem wp_anyQ {P : Program} {c : Code} {Q : Exit→Act→World→Prop} {a : Act} {w : World} (h : ∀ Q' : Exit→Act→World→Prop,(∀ a' w',Q .normal a' w'→Q' .normal a' w')→c.wp P Q' a w) : c.wp P Q a w:=h Q (fun _ _ q=>q)
set_option maxRecDepth 100000 in
set_option maxHeartbeats 12800000 in
theorem monitorNames_walk {wS : World} (hp : Perms wS) :
  Calls Tryz.prog 3 #[] wS fun e w'=>e = .returned (.bool true)∧Ext wS w':=by
 replace hp:=Lib.hid hp
 go_enter Tryz.func3,Tryz.ntmps3
 go_wp2
 go_loopw [1] (fun iv wr => ∃ k : Nat,k≤13∧iv = .int .i64 k∧Ext wS wr) (fun iv _=>13 - (intOf iv).toNat)
 case atStart=>exact ⟨0,by omega,rfl,Ext.refl _⟩
 case round =>
  refine wp_roundN fun K9 hK9 => ?_
  obtain ⟨k,hk,rfl,hFr⟩:=hrel
  by_cases hlt : k < 13
  rotate_left
  ·skip
   have hge : decide ((k : Int) < 13)=false:=decide_eq_false (by omega)
   clear hlt hk
   go_wp2_with fail
   refine (law35_given _).mono ?_
   rintro e w1 ⟨vg,rfl,fM,hE1⟩
   have hF1:=Ext.trans hFr hE1
   obtain ⟨gsa,gss,gsr,rfl,qg⟩:=FrMon.parts fM
   clear fM
   obtain ⟨v_ga,v_gac,rfl,-⟩:=(qg.read).1.form
   obtain ⟨v_gk,v_gkc,rfl,-⟩:=(qg.read).2.1.form
   obtain ⟨v_gr,v_grc,rfl,-⟩:=(qg.read).2.2.form
   try dsimp only at qg ⊢
   have Gg:=Lib.hid (Fq.mono (S':=(fun b=>True)) qg (fun b h1 _=>by exact trivial))
   clear qg
   clear hge
   go_upto_region 34 with fail
   have bM:=Box.new w1 28 #[.slice v_ga givenM.mem.al.length v_gac,.int .i64 givenM.mem.next,.slice v_gk givenM.stks.length v_gkc,.slice v_gr givenM.run.length v_grc,.int .i64 givenM.tag,.int .i64 givenM.call]
   have hza : (World.alloc w1 (.cells #[.slice v_ga givenM.mem.al.length v_gac,.int .i64 givenM.mem.next,.slice v_gk givenM.stks.length v_gkc,.slice v_gr givenM.run.length v_grc,.int .i64 givenM.tag,.int .i64 givenM.call] 28)).heap.size=w1.heap.size+1:=by rw [World.size_alloc]
   have hx2 : Ext w1 (World.alloc w1 (.cells #[.slice v_ga givenM.mem.al.length v_gac,.int .i64 givenM.mem.next,.slice v_gk givenM.stks.length v_gkc,.slice v_gr givenM.run.length v_grc,.int .i64 givenM.tag,.int .i64 givenM.call] 28)):=(Ext.refl _).alloc _
   obtain ⟨w2b,hw2⟩ : ∃ z,World.alloc w1 (.cells #[.slice v_ga givenM.mem.al.length v_gac,.int .i64 givenM.mem.next,.slice v_gk givenM.stks.length v_gkc,.slice v_gr givenM.run.length v_grc,.int .i64 givenM.tag,.int .i64 givenM.call] 28)=z:=⟨_,rfl⟩
   rw [hw2] at bM hx2 hza ⊢
   clear hw2
   have hzb0:=hza
   clear hza
   replace Gg:=Lib.hid (Fq.ext Gg.out hx2)
   have hF3:=Ext.trans hF1 hx2
   have bP:=Box.new w2b 43 #[.int .i64 0,.int .i64 0,.int .i64 1]
   rw [hzb0] at bP
   have hza : (World.alloc w2b (.cells #[.int .i64 0,.int .i64 0,.int .i64 1] 43)).heap.size=w1.heap.size+2:=by rw [World.size_alloc,hzb0]
   have hx4 : Ext w2b (World.alloc w2b (.cells #[.int .i64 0,.int .i64 0,.int .i64 1] 43)):=(Ext.refl _).alloc _
   obtain ⟨w4b,hw4⟩ : ∃ z,World.alloc w2b (.cells #[.int .i64 0,.int .i64 0,.int .i64 1] 43)=z:=⟨_,rfl⟩
   rw [hw4] at bP hx4 hza ⊢
   clear hw4
   clear hzb0
   have hzb1:=hza
   clear hza
   replace bM:=bM.ext hx4
   replace Gg:=Lib.hid (Fq.ext Gg.out hx4)
   have hF5:=Ext.trans hF3 hx4
   clear hzb1
   obtain ⟨BP,hBP⟩ : ∃ z,w1.heap.size+1=z:=⟨_,rfl⟩
   rw [hBP] at bP ⊢
   clear hBP
   obtain ⟨bM_0,bM_1,bM_2,bM_3,bM_4,bM_5,bM_l⟩:=bM.c6
   go_wp2_with fail
   clear bM_0 bM_1 bM_2 bM_3 bM_4 bM_5 bM_l
   refine ((ref35_TwinG Gg.out.read.1 Gg.out.read.2.1 Gg.out.read.2.2 given_small.1 given_small.2.1 given_small.2.2).mono fun _ _ h=>RetTw.mon h).mono ?_
   rintro e w6 ⟨vt,rfl,fM,hE6⟩
   replace bM:=bM.ext hE6
   replace bP:=bP.ext hE6
   replace Gg:=Lib.hid (Fq.ext Gg.out hE6)
   have hF6:=Ext.trans hF5 hE6
   obtain ⟨fsa,fss,fsr,rfl,qf⟩:=FrMon.parts fM
   clear fM
   obtain ⟨v_fa,v_fac,rfl,-⟩:=(qf.read).1.form
   obtain ⟨v_fk,v_fkc,rfl,-⟩:=(qf.read).2.1.form
   obtain ⟨v_fr,v_frc,rfl,-⟩:=(qf.read).2.2.form
   try dsimp only at qf ⊢
   have Gf:=Lib.hid (Fq.mono (S':=(fun b=>True)) qf (fun b h1 _=>by exact trivial))
   clear qf
   go_upto_region 35 with fail
   have ne_bF_bM : Hid (w6.heap.size≠w1.heap.size):=Hid.mk (by have h9:=bM.lt;omega)
   have ne_bF_bP : Hid (w6.heap.size≠BP):=Hid.mk (by have h9:=bP.lt;omega)
   have lowbF : Hid (wS.heap.size≤w6.heap.size):=Hid.mk (by have h9:=Ext.size hF6;omega)
   have bF:=Box.new w6 28 #[.slice v_fa givenM.mem.al.length v_fac,.int .i64 givenM.mem.next,.slice v_fk givenM.stks.length v_fkc,.slice v_fr givenM.run.length v_frc,.int .i64 givenM.tag,.int .i64 givenM.call]
   have hza : (World.alloc w6 (.cells #[.slice v_fa givenM.mem.al.length v_fac,.int .i64 givenM.mem.next,.slice v_fk givenM.stks.length v_fkc,.slice v_fr givenM.run.length v_frc,.int .i64 givenM.tag,.int .i64 givenM.call] 28)).heap.size=w6.heap.size+1:=by rw [World.size_alloc]
   have hx7 : Ext w6 (World.alloc w6 (.cells #[.slice v_fa givenM.mem.al.length v_fac,.int .i64 givenM.mem.next,.slice v_fk givenM.stks.length v_fkc,.slice v_fr givenM.run.length v_frc,.int .i64 givenM.tag,.int .i64 givenM.call] 28)):=(Ext.refl _).alloc _
   obtain ⟨w7b,hw7⟩ : ∃ z,World.alloc w6 (.cells #[.slice v_fa givenM.mem.al.length v_fac,.int .i64 givenM.mem.next,.slice v_fk givenM.stks.length v_fkc,.slice v_fr givenM.run.length v_frc,.int .i64 givenM.tag,.int .i64 givenM.call] 28)=z:=⟨_,rfl⟩
   rw [hw7] at bF hx7 hza ⊢
   clear hw7
   replace Gg:=Lib.hid (Fq.to (T:=fun _=>False) (S':=(fun b=>b≠w6.heap.size∧True)) Gg.out (ExtBut.of_ext hx7) (fun _ _ _ h=>h) (fun b h hl=>⟨by omega,trivial⟩))
   replace Gf:=Lib.hid (Fq.to (T:=fun _=>False) (S':=(fun b=>b≠w6.heap.size∧True)) Gf.out (ExtBut.of_ext hx7) (fun _ _ _ h=>h) (fun b h hl=>⟨by omega,trivial⟩))
   have hzb0:=hza
   clear hza
   replace bM:=bM.ext hx7
   replace bP:=bP.ext hx7
   have hF8:=Ext.trans hF6 hx7
   clear hzb0
   have bF_0 : World.cell? w7b ⟨w6.heap.size,0,none⟩=some (.slice v_fa givenM.mem.al.length v_fac):=bF.cell 0
   have bF_1 : World.cell? w7b ⟨w6.heap.size,1,none⟩=some (.int .i64 givenM.mem.next):=bF.cell 1
   have bF_2 : World.cell? w7b ⟨w6.heap.size,2,none⟩=some (.slice v_fk givenM.stks.length v_fkc):=bF.cell 2
   have bF_3 : World.cell? w7b ⟨w6.heap.size,3,none⟩=some (.slice v_fr givenM.run.length v_frc):=bF.cell 3
   have bF_4 : World.cell? w7b ⟨w6.heap.size,4,none⟩=some (.int .i64 givenM.tag):=bF.cell 4
   have bF_5 : World.cell? w7b ⟨w6.heap.size,5,none⟩=some (.int .i64 givenM.call):=bF.cell 5
   have bF_f0 : World.frozen? w7b ⟨w6.heap.size,0,none⟩=false:=bF.frozen 0
   have bF_f1 : World.frozen? w7b ⟨w6.heap.size,1,none⟩=false:=bF.frozen 1
   have bF_f2 : World.frozen? w7b ⟨w6.heap.size,2,none⟩=false:=bF.frozen 2
   have bF_f3 : World.frozen? w7b ⟨w6.heap.size,3,none⟩=false:=bF.frozen 3
   have bF_f4 : World.frozen? w7b ⟨w6.heap.size,4,none⟩=false:=bF.frozen 4
   have bF_f5 : World.frozen? w7b ⟨w6.heap.size,5,none⟩=false:=bF.frozen 5
   have bF_l:=bF.lt
   go_upto_region 36 with fail
   clear bF_0 bF_1 bF_2 bF_3 bF_4 bF_5 bF_f0 bF_f1 bF_f2 bF_f3 bF_f4 bF_f5 bF_l
   have hS9 : ExtBut (fun b=>b=w6.heap.size∨False) w7b (World.setCell w7b ⟨w6.heap.size,4,none⟩ (.int .i64 1000000)):=((ExtBut.setCell w7b ⟨w6.heap.size,4,none⟩ (.int .i64 1000000)).mono (S':=(fun b=>b=w6.heap.size∨False)) (fun b _ h => .inl h))
   replace bM:=(Box.other bM (p:=⟨w6.heap.size,4,none⟩) (ne_bF_bM.out) (.int .i64 1000000))
   replace bP:=(Box.other bP (p:=⟨w6.heap.size,4,none⟩) (ne_bF_bP.out) (.int .i64 1000000))
   replace bF:=(Box.setL bF 4 (.int .i64 1000000))
   simp only [List.set_cons_zero,List.set_cons_succ] at bF
   obtain ⟨w9s,hw9⟩ : ∃ z,(World.setCell w7b ⟨w6.heap.size,4,none⟩ (.int .i64 1000000))=z:=⟨_,rfl⟩
   rw [hw9] at hS9 bM bP bF ⊢
   clear hw9
   have hF9:=ExtBut.ext hF8 hS9 (fun b h=>by rcases h with h | h;(rw [h];exact lowbF.out);exact h.elim)
   replace Gg:=Lib.hid (Fq.but Gg.out hS9 (fun b h _ h2=>by rcases h2 with h2 | h2;exact h.1 h2;exact h2))
   replace Gf:=Lib.hid (Fq.but Gf.out hS9 (fun b h _ h2=>by rcases h2 with h2 | h2;exact h.1 h2;exact h2))
   clear hS9
   have bF9 : Box w9s (w6.heap.size) 28 #[.slice v_fa fullM.mem.al.length v_fac,.int .i64 fullM.mem.next,.slice v_fk fullM.stks.length v_fkc,.slice v_fr fullM.run.length v_frc,.int .i64 fullM.tag,.int .i64 fullM.call]:=bF
   clear bF
   have bF:=bF9
   clear bF9
   replace Gf : Hid (Fq (fun b=>b≠w6.heap.size∧True) w9s (RdA fullM ⟨v_fa,v_fac,v_fk,v_fkc,v_fr,v_frc⟩)):=Lib.hid Gf.out
   obtain ⟨xa,⟨qa1,qa2,qa3⟩,ha⟩:=d35a
   replace ha:=Lib.hid ha
   obtain ⟨bF_0,bF_1,bF_2,bF_3,bF_4,bF_5,bF_l⟩:=bF.c6
   go_wp2_with fail
   clear bF_0 bF_1 bF_2 bF_3 bF_4 bF_5 bF_l
   have ltbF:=Lib.hid bF.lt
   refine (monitor_Alloc 1 Gf.out.read.1 nx35 Gf.out.read.2.1 Gf.out.read.2.2).mono ?_
   rintro e w10 ⟨vt,rfl,fM,hE10⟩
   replace bM:=bM.ext hE10
   replace bP:=bP.ext hE10
   replace bF:=bF.ext hE10
   replace Gg:=Lib.hid (Fq.ext Gg.out hE10)
   replace Gf:=Lib.hid (Fq.ext Gf.out hE10)
   have hF10:=Ext.trans hF9 hE10
   rw [ha.out] at fM ⊢
   try dsimp only [Ptr.val] at fM ⊢
   obtain ⟨asa,ass,asr,rfl,qa⟩:=FrMon.parts fM
   clear fM
   obtain ⟨v_aa,v_aac,rfl,-⟩:=(qa.read).1.form
   obtain ⟨v_ak,v_akc,rfl,-⟩:=(qa.read).2.1.form
   obtain ⟨v_ar,v_arc,rfl,-⟩:=(qa.read).2.2.form
   try dsimp only at qa ⊢
   have Ga:=Lib.hid (Fq.mono (S':=(fun b=>b≠w6.heap.size∧True)) qa (fun b h1 _=>by have gbF:=ltbF.out;exact ⟨by omega,trivial⟩))
   clear qa ltbF
   clear Ga
   obtain ⟨xb,⟨qb1,qb2,qb3⟩,hb⟩:=d35b
   replace hb:=Lib.hid hb
   obtain ⟨bF_0,bF_1,bF_2,bF_3,bF_4,bF_5,bF_l⟩:=bF.c6
   go_wp2_with fail
   clear bF_0 bF_1 bF_2 bF_3 bF_4 bF_5 bF_l
   have ne_bF_bZ : Hid (w6.heap.size≠w10.heap.size):=Hid.mk (by have h9:=bF.lt;omega)
   have bZ:=Box.new w10 28 #[.slice v_aa xa.mem.al.length v_aac,.int .i64 xa.mem.next,.slice v_ak xa.stks.length v_akc,.slice v_ar xa.run.length v_arc,.int .i64 xa.tag,.int .i64 xa.call]
   have hza : (World.alloc w10 (.cells #[.slice v_aa xa.mem.al.length v_aac,.int .i64 xa.mem.next,.slice v_ak xa.stks.length v_akc,.slice v_ar xa.run.length v_arc,.int .i64 xa.tag,.int .i64 xa.call] 28)).heap.size=w10.heap.size+1:=by rw [World.size_alloc]
   have hx11 : Ext w10 (World.alloc w10 (.cells #[.slice v_aa xa.mem.al.length v_aac,.int .i64 xa.mem.next,.slice v_ak xa.stks.length v_akc,.slice v_ar xa.run.length v_arc,.int .i64 xa.tag,.int .i64 xa.call] 28)):=(Ext.refl _).alloc _
   obtain ⟨w11b,hw11⟩ : ∃ z,World.alloc w10 (.cells #[.slice v_aa xa.mem.al.length v_aac,.int .i64 xa.mem.next,.slice v_ak xa.stks.length v_akc,.slice v_ar xa.run.length v_arc,.int .i64 xa.tag,.int .i64 xa.call] 28)=z:=⟨_,rfl⟩
   rw [hw11] at bZ hx11 hza ⊢
   clear hw11
   have hzb0:=hza
   clear hza
   replace bM:=bM.ext hx11
   replace bP:=bP.ext hx11
   replace bF:=bF.ext hx11
   replace Gg:=Lib.hid (Fq.ext Gg.out hx11)
   replace Gf:=Lib.hid (Fq.ext Gf.out hx11)
   have hF12:=Ext.trans hF10 hx11
   have ne_bF_bY : Hid (w6.heap.size≠w10.heap.size+1):=Hid.mk (by have hz9:=hzb0;have h9:=bF.lt;omega)
   have bY:=Box.new w11b 43 #[.int .i64 qa1,.int .i64 qa2,.int .i64 qa3]
   rw [hzb0] at bY
   have hza : (World.alloc w11b (.cells #[.int .i64 qa1,.int .i64 qa2,.int .i64 qa3] 43)).heap.size=w10.heap.size+2:=by rw [World.size_alloc,hzb0]
   have hx13 : Ext w11b (World.alloc w11b (.cells #[.int .i64 qa1,.int .i64 qa2,.int .i64 qa3] 43)):=(Ext.refl _).alloc _
   obtain ⟨w13b,hw13⟩ : ∃ z,World.alloc w11b (.cells #[.int .i64 qa1,.int .i64 qa2,.int .i64 qa3] 43)=z:=⟨_,rfl⟩
   rw [hw13] at bY hx13 hza ⊢
   clear hw13
   clear hzb0
   have hzb1:=hza
   clear hza
   replace bM:=bM.ext hx13
   replace bP:=bP.ext hx13
   replace bF:=bF.ext hx13
   replace bZ:=bZ.ext hx13
   replace Gg:=Lib.hid (Fq.ext Gg.out hx13)
   replace Gf:=Lib.hid (Fq.ext Gf.out hx13)
   have hF14:=Ext.trans hF12 hx13
   clear hzb1
   have ltbF:=Lib.hid bF.lt
   refine (monitor_Alloc 3 Gf.out.read.1 nx35 Gf.out.read.2.1 Gf.out.read.2.2).mono ?_
   rintro e w15 ⟨vt,rfl,fM,hE15⟩
   replace bM:=bM.ext hE15
   replace bP:=bP.ext hE15
   replace bF:=bF.ext hE15
   replace bZ:=bZ.ext hE15
   replace bY:=bY.ext hE15
   replace Gg:=Lib.hid (Fq.ext Gg.out hE15)
   replace Gf:=Lib.hid (Fq.ext Gf.out hE15)
   have hF15:=Ext.trans hF14 hE15
   rw [hb.out] at fM ⊢
   try dsimp only [Ptr.val] at fM ⊢
   obtain ⟨bsa,bss,bsr,rfl,qb⟩:=FrMon.parts fM
   clear fM
   obtain ⟨v_ba,v_bac,rfl,-⟩:=(qb.read).1.form
   obtain ⟨v_bk,v_bkc,rfl,-⟩:=(qb.read).2.1.form
   obtain ⟨v_br,v_brc,rfl,-⟩:=(qb.read).2.2.form
   try dsimp only at qb ⊢
   have Gb:=Lib.hid (Fq.mono (S':=(fun b=>b≠w6.heap.size∧True)) qb (fun b h1 _=>by have gbF:=ltbF.out;exact ⟨by omega,trivial⟩))
   clear qb ltbF
   clear bZ
   clear bY
   clear Gb
   obtain ⟨xc,⟨qc1,qc2,qc3⟩,hc⟩:=d35c
   replace hc:=Lib.hid hc
   obtain ⟨bP_0,bP_1,bP_2,bP_l⟩:=bP.c3
   obtain ⟨bF_0,bF_1,bF_2,bF_3,bF_4,bF_5,bF_l⟩:=bF.c6
   go_wp2_with fail
   clear bP_0 bP_1 bP_2 bP_l bF_0 bF_1 bF_2 bF_3 bF_4 bF_5 bF_l
   have ne_bF_bZ : Hid (w6.heap.size≠w15.heap.size):=Hid.mk (by have h9:=bF.lt;omega)
   have bZ:=Box.new w15 28 #[.slice v_ba xb.mem.al.length v_bac,.int .i64 xb.mem.next,.slice v_bk xb.stks.length v_bkc,.slice v_br xb.run.length v_brc,.int .i64 xb.tag,.int .i64 xb.call]
   have hza : (World.alloc w15 (.cells #[.slice v_ba xb.mem.al.length v_bac,.int .i64 xb.mem.next,.slice v_bk xb.stks.length v_bkc,.slice v_br xb.run.length v_brc,.int .i64 xb.tag,.int .i64 xb.call] 28)).heap.size=w15.heap.size+1:=by rw [World.size_alloc]
   have hx16 : Ext w15 (World.alloc w15 (.cells #[.slice v_ba xb.mem.al.length v_bac,.int .i64 xb.mem.next,.slice v_bk xb.stks.length v_bkc,.slice v_br xb.run.length v_brc,.int .i64 xb.tag,.int .i64 xb.call] 28)):=(Ext.refl _).alloc _
   obtain ⟨w16b,hw16⟩ : ∃ z,World.alloc w15 (.cells #[.slice v_ba xb.mem.al.length v_bac,.int .i64 xb.mem.next,.slice v_bk xb.stks.length v_bkc,.slice v_br xb.run.length v_brc,.int .i64 xb.tag,.int .i64 xb.call] 28)=z:=⟨_,rfl⟩
   rw [hw16] at bZ hx16 hza ⊢
   clear hw16
   have hzb0:=hza
   clear hza
   replace bM:=bM.ext hx16
   replace bP:=bP.ext hx16
   replace bF:=bF.ext hx16
   replace Gg:=Lib.hid (Fq.ext Gg.out hx16)
   replace Gf:=Lib.hid (Fq.ext Gf.out hx16)
   have hF17:=Ext.trans hF15 hx16
   have ne_bF_bY : Hid (w6.heap.size≠w15.heap.size+1):=Hid.mk (by have hz9:=hzb0;have h9:=bF.lt;omega)
   have bY:=Box.new w16b 43 #[.int .i64 qb1,.int .i64 qb2,.int .i64 qb3]
   rw [hzb0] at bY
   have hza : (World.alloc w16b (.cells #[.int .i64 qb1,.int .i64 qb2,.int .i64 qb3] 43)).heap.size=w15.heap.size+2:=by rw [World.size_alloc,hzb0]
   have hx18 : Ext w16b (World.alloc w16b (.cells #[.int .i64 qb1,.int .i64 qb2,.int .i64 qb3] 43)):=(Ext.refl _).alloc _
   obtain ⟨w18b,hw18⟩ : ∃ z,World.alloc w16b (.cells #[.int .i64 qb1,.int .i64 qb2,.int .i64 qb3] 43)=z:=⟨_,rfl⟩
   rw [hw18] at bY hx18 hza ⊢
   clear hw18
   clear hzb0
   have hzb1:=hza
   clear hza
   replace bM:=bM.ext hx18
   replace bP:=bP.ext hx18
   replace bF:=bF.ext hx18
   replace bZ:=bZ.ext hx18
   replace Gg:=Lib.hid (Fq.ext Gg.out hx18)
   replace Gf:=Lib.hid (Fq.ext Gf.out hx18)
   have hF19:=Ext.trans hF17 hx18
   clear hzb1
   have ltbF:=Lib.hid bF.lt
   refine (monitor_Retag (m:=fullM) (kind:=2) 0 0 1 1 0 (hp.out.ext hF19) (by unfold u8B;decide) Gf.out.read.1 nx35 Gf.out.read.2.1 Gf.out.read.2.2).mono ?_
   rintro e w20 ⟨vt,rfl,fM,hE20⟩
   replace bM:=bM.ext hE20
   replace bP:=bP.ext hE20
   replace bF:=bF.ext hE20
   replace bZ:=bZ.ext hE20
   replace bY:=bY.ext hE20
   replace Gg:=Lib.hid (Fq.ext Gg.out hE20)
   replace Gf:=Lib.hid (Fq.ext Gf.out hE20)
   have hF20:=Ext.trans hF19 hE20
   rw [hc.out] at fM ⊢
   try dsimp only [Ptr.val] at fM ⊢
   obtain ⟨csa,css,csr,rfl,qc⟩:=FrMon.parts fM
   clear fM
   obtain ⟨v_ca,v_cac,rfl,-⟩:=(qc.read).1.form
   obtain ⟨v_ck,v_ckc,rfl,-⟩:=(qc.read).2.1.form
   obtain ⟨v_cr,v_crc,rfl,-⟩:=(qc.read).2.2.form
   try dsimp only at qc ⊢
   have Gc:=Lib.hid (Fq.mono (S':=(fun b=>b≠w6.heap.size∧True)) qc (fun b h1 _=>by have gbF:=ltbF.out;exact ⟨by omega,trivial⟩))
   clear qc ltbF
   clear bZ
   clear bY
   clear Gc
   obtain ⟨xd,⟨qd1,qd2,qd3⟩,hd⟩:=d35d
   replace hd:=Lib.hid hd
   obtain ⟨bP_0,bP_1,bP_2,bP_l⟩:=bP.c3
   obtain ⟨bF_0,bF_1,bF_2,bF_3,bF_4,bF_5,bF_l⟩:=bF.c6
   go_wp2_with fail
   clear bP_0 bP_1 bP_2 bP_l bF_0 bF_1 bF_2 bF_3 bF_4 bF_5 bF_l
   have ne_bF_bZ : Hid (w6.heap.size≠w20.heap.size):=Hid.mk (by have h9:=bF.lt;omega)
   have bZ:=Box.new w20 28 #[.slice v_ca xc.mem.al.length v_cac,.int .i64 xc.mem.next,.slice v_ck xc.stks.length v_ckc,.slice v_cr xc.run.length v_crc,.int .i64 xc.tag,.int .i64 xc.call]
   have hza : (World.alloc w20 (.cells #[.slice v_ca xc.mem.al.length v_cac,.int .i64 xc.mem.next,.slice v_ck xc.stks.length v_ckc,.slice v_cr xc.run.length v_crc,.int .i64 xc.tag,.int .i64 xc.call] 28)).heap.size=w20.heap.size+1:=by rw [World.size_alloc]
   have hx21 : Ext w20 (World.alloc w20 (.cells #[.slice v_ca xc.mem.al.length v_cac,.int .i64 xc.mem.next,.slice v_ck xc.stks.length v_ckc,.slice v_cr xc.run.length v_crc,.int .i64 xc.tag,.int .i64 xc.call] 28)):=(Ext.refl _).alloc _
   obtain ⟨w21b,hw21⟩ : ∃ z,World.alloc w20 (.cells #[.slice v_ca xc.mem.al.length v_cac,.int .i64 xc.mem.next,.slice v_ck xc.stks.length v_ckc,.slice v_cr xc.run.length v_crc,.int .i64 xc.tag,.int .i64 xc.call] 28)=z:=⟨_,rfl⟩
   rw [hw21] at bZ hx21 hza ⊢
   clear hw21
   have hzb0:=hza
   clear hza
   replace bM:=bM.ext hx21
   replace bP:=bP.ext hx21
   replace bF:=bF.ext hx21
   replace Gg:=Lib.hid (Fq.ext Gg.out hx21)
   replace Gf:=Lib.hid (Fq.ext Gf.out hx21)
   have hF22:=Ext.trans hF20 hx21
   have ne_bF_bY : Hid (w6.heap.size≠w20.heap.size+1):=Hid.mk (by have hz9:=hzb0;have h9:=bF.lt;omega)
   have bY:=Box.new w21b 43 #[.int .i64 qc1,.int .i64 qc2,.int .i64 qc3]
   rw [hzb0] at bY
   have hza : (World.alloc w21b (.cells #[.int .i64 qc1,.int .i64 qc2,.int .i64 qc3] 43)).heap.size=w20.heap.size+2:=by rw [World.size_alloc,hzb0]
   have hx23 : Ext w21b (World.alloc w21b (.cells #[.int .i64 qc1,.int .i64 qc2,.int .i64 qc3] 43)):=(Ext.refl _).alloc _
   obtain ⟨w23b,hw23⟩ : ∃ z,World.alloc w21b (.cells #[.int .i64 qc1,.int .i64 qc2,.int .i64 qc3] 43)=z:=⟨_,rfl⟩
   rw [hw23] at bY hx23 hza ⊢
   clear hw23
   clear hzb0
   have hzb1:=hza
   clear hza
   replace bM:=bM.ext hx23
   replace bP:=bP.ext hx23
   replace bF:=bF.ext hx23
   replace bZ:=bZ.ext hx23
   replace Gg:=Lib.hid (Fq.ext Gg.out hx23)
   replace Gf:=Lib.hid (Fq.ext Gf.out hx23)
   have hF24:=Ext.trans hF22 hx23
   clear hzb1
   have ltbF:=Lib.hid bF.lt
   refine (monitor_Retag (m:=fullM) (kind:=2) 0 0 1 3 0 (hp.out.ext hF24) (by unfold u8B;decide) Gf.out.read.1 nx35 Gf.out.read.2.1 Gf.out.read.2.2).mono ?_
   rintro e w25 ⟨vt,rfl,fM,hE25⟩
   replace bM:=bM.ext hE25
   replace bP:=bP.ext hE25
   replace bF:=bF.ext hE25
   replace bZ:=bZ.ext hE25
   replace bY:=bY.ext hE25
   replace Gg:=Lib.hid (Fq.ext Gg.out hE25)
   replace Gf:=Lib.hid (Fq.ext Gf.out hE25)
   have hF25:=Ext.trans hF24 hE25
   rw [hd.out] at fM ⊢
   try dsimp only [Ptr.val] at fM ⊢
   obtain ⟨dsa,dss,dsr,rfl,qd⟩:=FrMon.parts fM
   clear fM
   obtain ⟨v_da,v_dac,rfl,-⟩:=(qd.read).1.form
   obtain ⟨v_dk,v_dkc,rfl,-⟩:=(qd.read).2.1.form
   obtain ⟨v_dr,v_drc,rfl,-⟩:=(qd.read).2.2.form
   try dsimp only at qd ⊢
   have Gd:=Lib.hid (Fq.mono (S':=(fun b=>b≠w6.heap.size∧True)) qd (fun b h1 _=>by have gbF:=ltbF.out;exact ⟨by omega,trivial⟩))
   clear qd ltbF
   clear bZ
   clear bY
   clear Gd
   obtain ⟨xe,⟨qe1,qe2,qe3⟩,he⟩:=d35e
   replace he:=Lib.hid he
   obtain ⟨bM_0,bM_1,bM_2,bM_3,bM_4,bM_5,bM_l⟩:=bM.c6
   obtain ⟨bP_0,bP_1,bP_2,bP_l⟩:=bP.c3
   go_wp2_with fail
   clear bM_0 bM_1 bM_2 bM_3 bM_4 bM_5 bM_l bP_0 bP_1 bP_2 bP_l
   have ne_bF_bZ : Hid (w6.heap.size≠w25.heap.size):=Hid.mk (by have h9:=bF.lt;omega)
   have bZ:=Box.new w25 28 #[.slice v_da xd.mem.al.length v_dac,.int .i64 xd.mem.next,.slice v_dk xd.stks.length v_dkc,.slice v_dr xd.run.length v_drc,.int .i64 xd.tag,.int .i64 xd.call]
   have hza : (World.alloc w25 (.cells #[.slice v_da xd.mem.al.length v_dac,.int .i64 xd.mem.next,.slice v_dk xd.stks.length v_dkc,.slice v_dr xd.run.length v_drc,.int .i64 xd.tag,.int .i64 xd.call] 28)).heap.size=w25.heap.size+1:=by rw [World.size_alloc]
   have hx26 : Ext w25 (World.alloc w25 (.cells #[.slice v_da xd.mem.al.length v_dac,.int .i64 xd.mem.next,.slice v_dk xd.stks.length v_dkc,.slice v_dr xd.run.length v_drc,.int .i64 xd.tag,.int .i64 xd.call] 28)):=(Ext.refl _).alloc _
   obtain ⟨w26b,hw26⟩ : ∃ z,World.alloc w25 (.cells #[.slice v_da xd.mem.al.length v_dac,.int .i64 xd.mem.next,.slice v_dk xd.stks.length v_dkc,.slice v_dr xd.run.length v_drc,.int .i64 xd.tag,.int .i64 xd.call] 28)=z:=⟨_,rfl⟩
   rw [hw26] at bZ hx26 hza ⊢
   clear hw26
   have hzb0:=hza
   clear hza
   replace bM:=bM.ext hx26
   replace bP:=bP.ext hx26
   replace bF:=bF.ext hx26
   replace Gg:=Lib.hid (Fq.ext Gg.out hx26)
   replace Gf:=Lib.hid (Fq.ext Gf.out hx26)
   have hF27:=Ext.trans hF25 hx26
   have ne_bF_bY : Hid (w6.heap.size≠w25.heap.size+1):=Hid.mk (by have hz9:=hzb0;have h9:=bF.lt;omega)
   have bY:=Box.new w26b 43 #[.int .i64 qd1,.int .i64 qd2,.int .i64 qd3]
   rw [hzb0] at bY
   have hza : (World.alloc w26b (.cells #[.int .i64 qd1,.int .i64 qd2,.int .i64 qd3] 43)).heap.size=w25.heap.size+2:=by rw [World.size_alloc,hzb0]
   have hx28 : Ext w26b (World.alloc w26b (.cells #[.int .i64 qd1,.int .i64 qd2,.int .i64 qd3] 43)):=(Ext.refl _).alloc _
   obtain ⟨w28b,hw28⟩ : ∃ z,World.alloc w26b (.cells #[.int .i64 qd1,.int .i64 qd2,.int .i64 qd3] 43)=z:=⟨_,rfl⟩
   rw [hw28] at bY hx28 hza ⊢
   clear hw28
   clear hzb0
   have hzb1:=hza
   clear hza
   replace bM:=bM.ext hx28
   replace bP:=bP.ext hx28
   replace bF:=bF.ext hx28
   replace bZ:=bZ.ext hx28
   replace Gg:=Lib.hid (Fq.ext Gg.out hx28)
   replace Gf:=Lib.hid (Fq.ext Gf.out hx28)
   have hF29:=Ext.trans hF27 hx28
   clear hzb1
   have ltbF:=Lib.hid bF.lt
   refine (monitor_Retag (m:=givenM) (kind:=0) 0 0 1 1 0 (hp.out.ext hF29) (by unfold u8B;decide) Gg.out.read.1 nx35 Gg.out.read.2.1 Gg.out.read.2.2).mono ?_
   rintro e w30 ⟨vt,rfl,fM,hE30⟩
   replace bM:=bM.ext hE30
   replace bP:=bP.ext hE30
   replace bF:=bF.ext hE30
   replace bZ:=bZ.ext hE30
   replace bY:=bY.ext hE30
   replace Gg:=Lib.hid (Fq.ext Gg.out hE30)
   replace Gf:=Lib.hid (Fq.ext Gf.out hE30)
   have hF30:=Ext.trans hF29 hE30
   rw [he.out] at fM ⊢
   try dsimp only [Ptr.val] at fM ⊢
   obtain ⟨esa,ess,esr,rfl,qe⟩:=FrMon.parts fM
   clear fM
   obtain ⟨v_ea,v_eac,rfl,-⟩:=(qe.read).1.form
   obtain ⟨v_ek,v_ekc,rfl,-⟩:=(qe.read).2.1.form
   obtain ⟨v_er,v_erc,rfl,-⟩:=(qe.read).2.2.form
   try dsimp only at qe ⊢
   have Ge:=Lib.hid (Fq.mono (S':=(fun b=>b≠w6.heap.size∧True)) qe (fun b h1 _=>by have gbF:=ltbF.out;exact ⟨by omega,trivial⟩))
   clear qe ltbF
   clear bZ
   clear bY
   clear Ge
   obtain ⟨xf2,⟨qf21,qf22,qf23⟩,hf2⟩:=d35f
   replace hf2:=Lib.hid hf2
   obtain ⟨bM_0,bM_1,bM_2,bM_3,bM_4,bM_5,bM_l⟩:=bM.c6
   obtain ⟨bP_0,bP_1,bP_2,bP_l⟩:=bP.c3
   go_wp2_with fail
   clear bM_0 bM_1 bM_2 bM_3 bM_4 bM_5 bM_l bP_0 bP_1 bP_2 bP_l
   have ne_bF_bZ : Hid (w6.heap.size≠w30.heap.size):=Hid.mk (by have h9:=bF.lt;omega)
   have bZ:=Box.new w30 28 #[.slice v_ea xe.mem.al.length v_eac,.int .i64 xe.mem.next,.slice v_ek xe.stks.length v_ekc,.slice v_er xe.run.length v_erc,.int .i64 xe.tag,.int .i64 xe.call]
   have hza : (World.alloc w30 (.cells #[.slice v_ea xe.mem.al.length v_eac,.int .i64 xe.mem.next,.slice v_ek xe.stks.length v_ekc,.slice v_er xe.run.length v_erc,.int .i64 xe.tag,.int .i64 xe.call] 28)).heap.size=w30.heap.size+1:=by rw [World.size_alloc]
   have hx31 : Ext w30 (World.alloc w30 (.cells #[.slice v_ea xe.mem.al.length v_eac,.int .i64 xe.mem.next,.slice v_ek xe.stks.length v_ekc,.slice v_er xe.run.length v_erc,.int .i64 xe.tag,.int .i64 xe.call] 28)):=(Ext.refl _).alloc _
   obtain ⟨w31b,hw31⟩ : ∃ z,World.alloc w30 (.cells #[.slice v_ea xe.mem.al.length v_eac,.int .i64 xe.mem.next,.slice v_ek xe.stks.length v_ekc,.slice v_er xe.run.length v_erc,.int .i64 xe.tag,.int .i64 xe.call] 28)=z:=⟨_,rfl⟩
   rw [hw31] at bZ hx31 hza ⊢
   clear hw31
   have hzb0:=hza
   clear hza
   replace bM:=bM.ext hx31
   replace bP:=bP.ext hx31
   replace bF:=bF.ext hx31
   replace Gg:=Lib.hid (Fq.ext Gg.out hx31)
   replace Gf:=Lib.hid (Fq.ext Gf.out hx31)
   have hF32:=Ext.trans hF30 hx31
   have ne_bF_bY : Hid (w6.heap.size≠w30.heap.size+1):=Hid.mk (by have hz9:=hzb0;have h9:=bF.lt;omega)
   have bY:=Box.new w31b 43 #[.int .i64 qe1,.int .i64 qe2,.int .i64 qe3]
   rw [hzb0] at bY
   have hza : (World.alloc w31b (.cells #[.int .i64 qe1,.int .i64 qe2,.int .i64 qe3] 43)).heap.size=w30.heap.size+2:=by rw [World.size_alloc,hzb0]
   have hx33 : Ext w31b (World.alloc w31b (.cells #[.int .i64 qe1,.int .i64 qe2,.int .i64 qe3] 43)):=(Ext.refl _).alloc _
   obtain ⟨w33b,hw33⟩ : ∃ z,World.alloc w31b (.cells #[.int .i64 qe1,.int .i64 qe2,.int .i64 qe3] 43)=z:=⟨_,rfl⟩
   rw [hw33] at bY hx33 hza ⊢
   clear hw33
   clear hzb0
   have hzb1:=hza
   clear hza
   replace bM:=bM.ext hx33
   replace bP:=bP.ext hx33
   replace bF:=bF.ext hx33
   replace bZ:=bZ.ext hx33
   replace Gg:=Lib.hid (Fq.ext Gg.out hx33)
   replace Gf:=Lib.hid (Fq.ext Gf.out hx33)
   have hF34:=Ext.trans hF32 hx33
   clear hzb1
   have ltbF:=Lib.hid bF.lt
   refine (monitor_Retag (m:=givenM) (kind:=5) 0 0 1 1 0 (hp.out.ext hF34) (by unfold u8B;decide) Gg.out.read.1 nx35 Gg.out.read.2.1 Gg.out.read.2.2).mono ?_
   rintro e w35 ⟨vt,rfl,fM,hE35⟩
   replace bM:=bM.ext hE35
   replace bP:=bP.ext hE35
   replace bF:=bF.ext hE35
   replace bZ:=bZ.ext hE35
   replace bY:=bY.ext hE35
   replace Gg:=Lib.hid (Fq.ext Gg.out hE35)
   replace Gf:=Lib.hid (Fq.ext Gf.out hE35)
   have hF35:=Ext.trans hF34 hE35
   rw [hf2.out] at fM ⊢
   try dsimp only [Ptr.val] at fM ⊢
   obtain ⟨f2sa,f2ss,f2sr,rfl,qf2⟩:=FrMon.parts fM
   clear fM
   obtain ⟨v_f2a,v_f2ac,rfl,-⟩:=(qf2.read).1.form
   obtain ⟨v_f2k,v_f2kc,rfl,-⟩:=(qf2.read).2.1.form
   obtain ⟨v_f2r,v_f2rc,rfl,-⟩:=(qf2.read).2.2.form
   try dsimp only at qf2 ⊢
   have Gf2:=Lib.hid (Fq.mono (S':=(fun b=>b≠w6.heap.size∧True)) qf2 (fun b h1 _=>by have gbF:=ltbF.out;exact ⟨by omega,trivial⟩))
   clear qf2 ltbF
   clear bZ
   clear bY
   clear Gf2
   obtain ⟨xg2,⟨qg21,qg22,qg23⟩,hg2⟩:=d35g
   replace hg2:=Lib.hid hg2
   obtain ⟨bM_0,bM_1,bM_2,bM_3,bM_4,bM_5,bM_l⟩:=bM.c6
   obtain ⟨bP_0,bP_1,bP_2,bP_l⟩:=bP.c3
   go_wp2_with fail
   clear bM_0 bM_1 bM_2 bM_3 bM_4 bM_5 bM_l bP_0 bP_1 bP_2 bP_l
   have ne_bF_bZ : Hid (w6.heap.size≠w35.heap.size):=Hid.mk (by have h9:=bF.lt;omega)
   have bZ:=Box.new w35 28 #[.slice v_f2a xf2.mem.al.length v_f2ac,.int .i64 xf2.mem.next,.slice v_f2k xf2.stks.length v_f2kc,.slice v_f2r xf2.run.length v_f2rc,.int .i64 xf2.tag,.int .i64 xf2.call]
   have hza : (World.alloc w35 (.cells #[.slice v_f2a xf2.mem.al.length v_f2ac,.int .i64 xf2.mem.next,.slice v_f2k xf2.stks.length v_f2kc,.slice v_f2r xf2.run.length v_f2rc,.int .i64 xf2.tag,.int .i64 xf2.call] 28)).heap.size=w35.heap.size+1:=by rw [World.size_alloc]
   have hx36 : Ext w35 (World.alloc w35 (.cells #[.slice v_f2a xf2.mem.al.length v_f2ac,.int .i64 xf2.mem.next,.slice v_f2k xf2.stks.length v_f2kc,.slice v_f2r xf2.run.length v_f2rc,.int .i64 xf2.tag,.int .i64 xf2.call] 28)):=(Ext.refl _).alloc _
   obtain ⟨w36b,hw36⟩ : ∃ z,World.alloc w35 (.cells #[.slice v_f2a xf2.mem.al.length v_f2ac,.int .i64 xf2.mem.next,.slice v_f2k xf2.stks.length v_f2kc,.slice v_f2r xf2.run.length v_f2rc,.int .i64 xf2.tag,.int .i64 xf2.call] 28)=z:=⟨_,rfl⟩
   rw [hw36] at bZ hx36 hza ⊢
   clear hw36
   have hzb0:=hza
   clear hza
   replace bM:=bM.ext hx36
   replace bP:=bP.ext hx36
   replace bF:=bF.ext hx36
   replace Gg:=Lib.hid (Fq.ext Gg.out hx36)
   replace Gf:=Lib.hid (Fq.ext Gf.out hx36)
   have hF37:=Ext.trans hF35 hx36
   have ne_bF_bY : Hid (w6.heap.size≠w35.heap.size+1):=Hid.mk (by have hz9:=hzb0;have h9:=bF.lt;omega)
   have bY:=Box.new w36b 43 #[.int .i64 qf21,.int .i64 qf22,.int .i64 qf23]
   rw [hzb0] at bY
   have hza : (World.alloc w36b (.cells #[.int .i64 qf21,.int .i64 qf22,.int .i64 qf23] 43)).heap.size=w35.heap.size+2:=by rw [World.size_alloc,hzb0]
   have hx38 : Ext w36b (World.alloc w36b (.cells #[.int .i64 qf21,.int .i64 qf22,.int .i64 qf23] 43)):=(Ext.refl _).alloc _
   obtain ⟨w38b,hw38⟩ : ∃ z,World.alloc w36b (.cells #[.int .i64 qf21,.int .i64 qf22,.int .i64 qf23] 43)=z:=⟨_,rfl⟩
   rw [hw38] at bY hx38 hza ⊢
   clear hw38
   clear hzb0
   have hzb1:=hza
   clear hza
   replace bM:=bM.ext hx38
   replace bP:=bP.ext hx38
   replace bF:=bF.ext hx38
   replace bZ:=bZ.ext hx38
   replace Gg:=Lib.hid (Fq.ext Gg.out hx38)
   replace Gf:=Lib.hid (Fq.ext Gf.out hx38)
   have hF39:=Ext.trans hF37 hx38
   clear hzb1
   have ltbF:=Lib.hid bF.lt
   refine (monitor_Retag (m:=givenM) (kind:=2) 0 0 1 1 2 (hp.out.ext hF39) (by unfold u8B;decide) Gg.out.read.1 nx35 Gg.out.read.2.1 Gg.out.read.2.2).mono ?_
   rintro e w40 ⟨vt,rfl,fM,hE40⟩
   replace bM:=bM.ext hE40
   replace bP:=bP.ext hE40
   replace bF:=bF.ext hE40
   replace bZ:=bZ.ext hE40
   replace bY:=bY.ext hE40
   replace Gg:=Lib.hid (Fq.ext Gg.out hE40)
   replace Gf:=Lib.hid (Fq.ext Gf.out hE40)
   have hF40:=Ext.trans hF39 hE40
   rw [hg2.out] at fM ⊢
   try dsimp only [Ptr.val] at fM ⊢
   obtain ⟨g2sa,g2ss,g2sr,rfl,qg2⟩:=FrMon.parts fM
   clear fM
   obtain ⟨v_g2a,v_g2ac,rfl,-⟩:=(qg2.read).1.form
   obtain ⟨v_g2k,v_g2kc,rfl,-⟩:=(qg2.read).2.1.form
   obtain ⟨v_g2r,v_g2rc,rfl,-⟩:=(qg2.read).2.2.form
   try dsimp only at qg2 ⊢
   have Gg2:=Lib.hid (Fq.mono (S':=(fun b=>b≠w6.heap.size∧True)) qg2 (fun b h1 _=>by have gbF:=ltbF.out;exact ⟨by omega,trivial⟩))
   clear qg2 ltbF
   clear bZ
   clear bY
   clear Gg2
   obtain ⟨xh,⟨qh1,qh2,qh3⟩,hh⟩:=d35h
   replace hh:=Lib.hid hh
   obtain ⟨bM_0,bM_1,bM_2,bM_3,bM_4,bM_5,bM_l⟩:=bM.c6
   go_wp2_with fail
   clear bM_0 bM_1 bM_2 bM_3 bM_4 bM_5 bM_l
   have ne_bF_bZ : Hid (w6.heap.size≠w40.heap.size):=Hid.mk (by have h9:=bF.lt;omega)
   have bZ:=Box.new w40 28 #[.slice v_g2a xg2.mem.al.length v_g2ac,.int .i64 xg2.mem.next,.slice v_g2k xg2.stks.length v_g2kc,.slice v_g2r xg2.run.length v_g2rc,.int .i64 xg2.tag,.int .i64 xg2.call]
   have hza : (World.alloc w40 (.cells #[.slice v_g2a xg2.mem.al.length v_g2ac,.int .i64 xg2.mem.next,.slice v_g2k xg2.stks.length v_g2kc,.slice v_g2r xg2.run.length v_g2rc,.int .i64 xg2.tag,.int .i64 xg2.call] 28)).heap.size=w40.heap.size+1:=by rw [World.size_alloc]
   have hx41 : Ext w40 (World.alloc w40 (.cells #[.slice v_g2a xg2.mem.al.length v_g2ac,.int .i64 xg2.mem.next,.slice v_g2k xg2.stks.length v_g2kc,.slice v_g2r xg2.run.length v_g2rc,.int .i64 xg2.tag,.int .i64 xg2.call] 28)):=(Ext.refl _).alloc _
   obtain ⟨w41b,hw41⟩ : ∃ z,World.alloc w40 (.cells #[.slice v_g2a xg2.mem.al.length v_g2ac,.int .i64 xg2.mem.next,.slice v_g2k xg2.stks.length v_g2kc,.slice v_g2r xg2.run.length v_g2rc,.int .i64 xg2.tag,.int .i64 xg2.call] 28)=z:=⟨_,rfl⟩
   rw [hw41] at bZ hx41 hza ⊢
   clear hw41
   have hzb0:=hza
   clear hza
   replace bM:=bM.ext hx41
   replace bP:=bP.ext hx41
   replace bF:=bF.ext hx41
   replace Gg:=Lib.hid (Fq.ext Gg.out hx41)
   replace Gf:=Lib.hid (Fq.ext Gf.out hx41)
   have hF42:=Ext.trans hF40 hx41
   have ne_bF_bY : Hid (w6.heap.size≠w40.heap.size+1):=Hid.mk (by have hz9:=hzb0;have h9:=bF.lt;omega)
   have bY:=Box.new w41b 43 #[.int .i64 qg21,.int .i64 qg22,.int .i64 qg23]
   rw [hzb0] at bY
   have hza : (World.alloc w41b (.cells #[.int .i64 qg21,.int .i64 qg22,.int .i64 qg23] 43)).heap.size=w40.heap.size+2:=by rw [World.size_alloc,hzb0]
   have hx43 : Ext w41b (World.alloc w41b (.cells #[.int .i64 qg21,.int .i64 qg22,.int .i64 qg23] 43)):=(Ext.refl _).alloc _
   obtain ⟨w43b,hw43⟩ : ∃ z,World.alloc w41b (.cells #[.int .i64 qg21,.int .i64 qg22,.int .i64 qg23] 43)=z:=⟨_,rfl⟩
   rw [hw43] at bY hx43 hza ⊢
   clear hw43
   clear hzb0
   have hzb1:=hza
   clear hza
   replace bM:=bM.ext hx43
   replace bP:=bP.ext hx43
   replace bF:=bF.ext hx43
   replace bZ:=bZ.ext hx43
   replace Gg:=Lib.hid (Fq.ext Gg.out hx43)
   replace Gf:=Lib.hid (Fq.ext Gf.out hx43)
   have hF44:=Ext.trans hF42 hx43
   clear hzb1
   have ltbF:=Lib.hid bF.lt
   refine (monitor_Retag (m:=givenM) (kind:=2) 1 0 0 1 1 (hp.out.ext hF44) (by unfold u8B;decide) Gg.out.read.1 nx35 Gg.out.read.2.1 Gg.out.read.2.2).mono ?_
   rintro e w45 ⟨vt,rfl,fM,hE45⟩
   replace bM:=bM.ext hE45
   replace bP:=bP.ext hE45
   replace bF:=bF.ext hE45
   replace bZ:=bZ.ext hE45
   replace bY:=bY.ext hE45
   replace Gg:=Lib.hid (Fq.ext Gg.out hE45)
   replace Gf:=Lib.hid (Fq.ext Gf.out hE45)
   have hF45:=Ext.trans hF44 hE45
   rw [hh.out] at fM ⊢
   try dsimp only [Ptr.val] at fM ⊢
   obtain ⟨hsa,hss,hsr,rfl,qh⟩:=FrMon.parts fM
   clear fM
   obtain ⟨v_ha,v_hac,rfl,-⟩:=(qh.read).1.form
   obtain ⟨v_hk,v_hkc,rfl,-⟩:=(qh.read).2.1.form
   obtain ⟨v_hr,v_hrc,rfl,-⟩:=(qh.read).2.2.form
   try dsimp only at qh ⊢
   have Gh:=Lib.hid (Fq.mono (S':=(fun b=>b≠w6.heap.size∧True)) qh (fun b h1 _=>by have gbF:=ltbF.out;exact ⟨by omega,trivial⟩))
   clear qh ltbF
   clear bZ
   clear bY
   clear Gh
   obtain ⟨xi,li,hi⟩:=d35i
   replace hi:=Lib.hid hi
   obtain ⟨bM_0,bM_1,bM_2,bM_3,bM_4,bM_5,bM_l⟩:=bM.c6
   obtain ⟨bP_0,bP_1,bP_2,bP_l⟩:=bP.c3
   go_wp2_with fail
   clear bM_0 bM_1 bM_2 bM_3 bM_4 bM_5 bM_l bP_0 bP_1 bP_2 bP_l
   have ne_bF_bZ : Hid (w6.heap.size≠w45.heap.size):=Hid.mk (by have h9:=bF.lt;omega)
   have bZ:=Box.new w45 28 #[.slice v_ha xh.mem.al.length v_hac,.int .i64 xh.mem.next,.slice v_hk xh.stks.length v_hkc,.slice v_hr xh.run.length v_hrc,.int .i64 xh.tag,.int .i64 xh.call]
   have hza : (World.alloc w45 (.cells #[.slice v_ha xh.mem.al.length v_hac,.int .i64 xh.mem.next,.slice v_hk xh.stks.length v_hkc,.slice v_hr xh.run.length v_hrc,.int .i64 xh.tag,.int .i64 xh.call] 28)).heap.size=w45.heap.size+1:=by rw [World.size_alloc]
   have hx46 : Ext w45 (World.alloc w45 (.cells #[.slice v_ha xh.mem.al.length v_hac,.int .i64 xh.mem.next,.slice v_hk xh.stks.length v_hkc,.slice v_hr xh.run.length v_hrc,.int .i64 xh.tag,.int .i64 xh.call] 28)):=(Ext.refl _).alloc _
   obtain ⟨w46b,hw46⟩ : ∃ z,World.alloc w45 (.cells #[.slice v_ha xh.mem.al.length v_hac,.int .i64 xh.mem.next,.slice v_hk xh.stks.length v_hkc,.slice v_hr xh.run.length v_hrc,.int .i64 xh.tag,.int .i64 xh.call] 28)=z:=⟨_,rfl⟩
   rw [hw46] at bZ hx46 hza ⊢
   clear hw46
   have hzb0:=hza
   clear hza
   replace bM:=bM.ext hx46
   replace bP:=bP.ext hx46
   replace bF:=bF.ext hx46
   replace Gg:=Lib.hid (Fq.ext Gg.out hx46)
   replace Gf:=Lib.hid (Fq.ext Gf.out hx46)
   have hF47:=Ext.trans hF45 hx46
   have ne_bF_bY : Hid (w6.heap.size≠w45.heap.size+1):=Hid.mk (by have hz9:=hzb0;have h9:=bF.lt;omega)
   have bY:=Box.new w46b 43 #[.int .i64 qh1,.int .i64 qh2,.int .i64 qh3]
   rw [hzb0] at bY
   have hza : (World.alloc w46b (.cells #[.int .i64 qh1,.int .i64 qh2,.int .i64 qh3] 43)).heap.size=w45.heap.size+2:=by rw [World.size_alloc,hzb0]
   have hx48 : Ext w46b (World.alloc w46b (.cells #[.int .i64 qh1,.int .i64 qh2,.int .i64 qh3] 43)):=(Ext.refl _).alloc _
   obtain ⟨w48b,hw48⟩ : ∃ z,World.alloc w46b (.cells #[.int .i64 qh1,.int .i64 qh2,.int .i64 qh3] 43)=z:=⟨_,rfl⟩
   rw [hw48] at bY hx48 hza ⊢
   clear hw48
   clear hzb0
   have hzb1:=hza
   clear hza
   replace bM:=bM.ext hx48
   replace bP:=bP.ext hx48
   replace bF:=bF.ext hx48
   replace bZ:=bZ.ext hx48
   replace Gg:=Lib.hid (Fq.ext Gg.out hx48)
   replace Gf:=Lib.hid (Fq.ext Gf.out hx48)
   have hF49:=Ext.trans hF47 hx48
   clear hzb1
   have ltbF:=Lib.hid bF.lt
   refine (monitor_Load (m:=givenM) 0 0 1 2 Gg.out.read.1 nx35 Gg.out.read.2.1 Gg.out.read.2.2).mono ?_
   rintro e w50 ⟨vt,vl,rfl,fM,fL,hE50⟩
   replace bM:=bM.ext hE50
   replace bP:=bP.ext hE50
   replace bF:=bF.ext hE50
   replace bZ:=bZ.ext hE50
   replace bY:=bY.ext hE50
   replace Gg:=Lib.hid (Fq.ext Gg.out hE50)
   replace Gf:=Lib.hid (Fq.ext Gf.out hE50)
   have hF50:=Ext.trans hF49 hE50
   rw [hi.out] at fM fL ⊢
   try dsimp only [Ptr.val] at fM fL ⊢
   obtain ⟨isa,iss,isr,rfl,qi⟩:=FrMon.parts fM
   clear fM
   obtain ⟨v_ia,v_iac,rfl,-⟩:=(qi.read).1.form
   obtain ⟨v_ik,v_ikc,rfl,-⟩:=(qi.read).2.1.form
   obtain ⟨v_ir,v_irc,rfl,-⟩:=(qi.read).2.2.form
   try dsimp only at qi ⊢
   obtain ⟨ai,ci,rfl,-⟩:=fL.read.form
   clear fL
   have Gi:=Lib.hid (Fq.mono (S':=(fun b=>b≠w6.heap.size∧True)) qi (fun b h1 _=>by have gbF:=ltbF.out;exact ⟨by omega,trivial⟩))
   clear qi ltbF
   clear bZ
   clear bY
   clear Gi
   obtain ⟨xj,lj,hj⟩:=d35j
   replace hj:=Lib.hid hj
   obtain ⟨bM_0,bM_1,bM_2,bM_3,bM_4,bM_5,bM_l⟩:=bM.c6
   go_wp2_with fail
   clear bM_0 bM_1 bM_2 bM_3 bM_4 bM_5 bM_l
   have ne_bF_bZ : Hid (w6.heap.size≠w50.heap.size):=Hid.mk (by have h9:=bF.lt;omega)
   have bZ:=Box.new w50 28 #[.slice v_ia xi.mem.al.length v_iac,.int .i64 xi.mem.next,.slice v_ik xi.stks.length v_ikc,.slice v_ir xi.run.length v_irc,.int .i64 xi.tag,.int .i64 xi.call]
   have hza : (World.alloc w50 (.cells #[.slice v_ia xi.mem.al.length v_iac,.int .i64 xi.mem.next,.slice v_ik xi.stks.length v_ikc,.slice v_ir xi.run.length v_irc,.int .i64 xi.tag,.int .i64 xi.call] 28)).heap.size=w50.heap.size+1:=by rw [World.size_alloc]
   have hx51 : Ext w50 (World.alloc w50 (.cells #[.slice v_ia xi.mem.al.length v_iac,.int .i64 xi.mem.next,.slice v_ik xi.stks.length v_ikc,.slice v_ir xi.run.length v_irc,.int .i64 xi.tag,.int .i64 xi.call] 28)):=(Ext.refl _).alloc _
   obtain ⟨w51b,hw51⟩ : ∃ z,World.alloc w50 (.cells #[.slice v_ia xi.mem.al.length v_iac,.int .i64 xi.mem.next,.slice v_ik xi.stks.length v_ikc,.slice v_ir xi.run.length v_irc,.int .i64 xi.tag,.int .i64 xi.call] 28)=z:=⟨_,rfl⟩
   rw [hw51] at bZ hx51 hza ⊢
   clear hw51
   have hzb0:=hza
   clear hza
   replace bM:=bM.ext hx51
   replace bP:=bP.ext hx51
   replace bF:=bF.ext hx51
   replace Gg:=Lib.hid (Fq.ext Gg.out hx51)
   replace Gf:=Lib.hid (Fq.ext Gf.out hx51)
   have hF52:=Ext.trans hF50 hx51
   clear hzb0
   have ltbF:=Lib.hid bF.lt
   refine (monitor_Load (m:=givenM) 0 0 9 2 Gg.out.read.1 nx35 Gg.out.read.2.1 Gg.out.read.2.2).mono ?_
   rintro e w53 ⟨vt,vl,rfl,fM,fL,hE53⟩
   replace bM:=bM.ext hE53
   replace bP:=bP.ext hE53
   replace bF:=bF.ext hE53
   replace bZ:=bZ.ext hE53
   replace Gg:=Lib.hid (Fq.ext Gg.out hE53)
   replace Gf:=Lib.hid (Fq.ext Gf.out hE53)
   have hF53:=Ext.trans hF52 hE53
   rw [hj.out] at fM fL ⊢
   try dsimp only [Ptr.val] at fM fL ⊢
   obtain ⟨jsa,jss,jsr,rfl,qj⟩:=FrMon.parts fM
   clear fM
   obtain ⟨v_ja,v_jac,rfl,-⟩:=(qj.read).1.form
   obtain ⟨v_jk,v_jkc,rfl,-⟩:=(qj.read).2.1.form
   obtain ⟨v_jr,v_jrc,rfl,-⟩:=(qj.read).2.2.form
   try dsimp only at qj ⊢
   obtain ⟨aj,cj,rfl,-⟩:=fL.read.form
   clear fL
   have Gj:=Lib.hid (Fq.mono (S':=(fun b=>b≠w6.heap.size∧True)) qj (fun b h1 _=>by have gbF:=ltbF.out;exact ⟨by omega,trivial⟩))
   clear qj ltbF
   clear bZ
   clear Gj
   obtain ⟨xk,hk⟩:=d35k
   replace hk:=Lib.hid hk
   go_upto_region 46 with fail
   have ne_bF_bZ : Hid (w6.heap.size≠w53.heap.size):=Hid.mk (by have h9:=bF.lt;omega)
   have bZ:=Box.new w53 28 #[.slice v_ja xj.mem.al.length v_jac,.int .i64 xj.mem.next,.slice v_jk xj.stks.length v_jkc,.slice v_jr xj.run.length v_jrc,.int .i64 xj.tag,.int .i64 xj.call]
   have hza : (World.alloc w53 (.cells #[.slice v_ja xj.mem.al.length v_jac,.int .i64 xj.mem.next,.slice v_jk xj.stks.length v_jkc,.slice v_jr xj.run.length v_jrc,.int .i64 xj.tag,.int .i64 xj.call] 28)).heap.size=w53.heap.size+1:=by rw [World.size_alloc]
   have hx54 : Ext w53 (World.alloc w53 (.cells #[.slice v_ja xj.mem.al.length v_jac,.int .i64 xj.mem.next,.slice v_jk xj.stks.length v_jkc,.slice v_jr xj.run.length v_jrc,.int .i64 xj.tag,.int .i64 xj.call] 28)):=(Ext.refl _).alloc _
   obtain ⟨w54b,hw54⟩ : ∃ z,World.alloc w53 (.cells #[.slice v_ja xj.mem.al.length v_jac,.int .i64 xj.mem.next,.slice v_jk xj.stks.length v_jkc,.slice v_jr xj.run.length v_jrc,.int .i64 xj.tag,.int .i64 xj.call] 28)=z:=⟨_,rfl⟩
   rw [hw54] at bZ hx54 hza ⊢
   clear hw54
   have hzb0:=hza
   clear hza
   replace bM:=bM.ext hx54
   replace bP:=bP.ext hx54
   replace bF:=bF.ext hx54
   replace Gg:=Lib.hid (Fq.ext Gg.out hx54)
   replace Gf:=Lib.hid (Fq.ext Gf.out hx54)
   have hF55:=Ext.trans hF53 hx54
   clear hzb0
   clear bZ
   have hres9:=hk
   have rr:=Lib.hid Gg.out.read
   go_upto_region 46 with fail
   have cbM_0 : World.cell? w54b ⟨w1.heap.size,0,none⟩=some (.slice v_ga givenM.mem.al.length v_gac):=bM.cell 0
   have cbM_1 : World.cell? w54b ⟨w1.heap.size,1,none⟩=some (.int .i64 givenM.mem.next):=bM.cell 1
   have cbM_2 : World.cell? w54b ⟨w1.heap.size,2,none⟩=some (.slice v_gk givenM.stks.length v_gkc):=bM.cell 2
   have cbM_3 : World.cell? w54b ⟨w1.heap.size,3,none⟩=some (.slice v_gr givenM.run.length v_grc):=bM.cell 3
   have cbM_4 : World.cell? w54b ⟨w1.heap.size,4,none⟩=some (.int .i64 givenM.tag):=bM.cell 4
   have cbM_5 : World.cell? w54b ⟨w1.heap.size,5,none⟩=some (.int .i64 givenM.call):=bM.cell 5
   have cbP_0 : World.cell? w54b ⟨BP,0,none⟩=some (.int .i64 0):=bP.cell 0
   have cbP_1 : World.cell? w54b ⟨BP,1,none⟩=some (.int .i64 0):=bP.cell 1
   have cbP_2 : World.cell? w54b ⟨BP,2,none⟩=some (.int .i64 1):=bP.cell 2
   have ltbF:=bF.lt
   refine wp_region_st (R:=RX w54b.drew.heap.size [9] (XM w54b.drew.heap.size [9] xk #[])) RX.refl (fun _ _ _=>RX.trans XM_st) [PrS.eq _ (.agg #[.slice v_ga givenM.mem.al.length v_gac,.int .i64 givenM.mem.next,.slice v_gk givenM.stks.length v_gkc,.slice v_gr givenM.run.length v_grc,.int .i64 givenM.tag,.int .i64 givenM.call]),PrS.eq _ (.agg #[.int .i64 1,.int .i64 9,.int .i64 0]),PrS.eq _ (.agg #[.int .u8 1,.int .i64 1,.int .i64 0,.int .i64 0,.int .i64 0]),(PrFS w54b.drew.heap.size [9] (XM w54b.drew.heap.size [9] xk #[]) (fun a9 : Option Addr × Nat => .slice a9.1 1 a9.2) (fun a9 w=>Cls w (.slice a9.1 1 a9.2) [⟨1,1,0,0,0⟩])),(PrFS w54b.drew.heap.size [9] (XM w54b.drew.heap.size [9] xk #[]) (fun a9 : A3 => .tuple #[.agg #[.slice a9.a1 xk.mem.al.length a9.c1,.int .i64 xk.mem.next,.slice a9.a2 xk.stks.length a9.c2,.slice a9.a3 xk.run.length a9.c3,.int .i64 xk.tag,.int .i64 xk.call],.int .u8 3,.int .i64 0]) (RdA xk)),(PrFS w54b.drew.heap.size [9] (XM w54b.drew.heap.size [9] xk #[]) (fun a9 : A3 => .tuple #[.agg #[.slice a9.a1 xk.mem.al.length a9.c1,.int .i64 xk.mem.next,.slice a9.a2 xk.stks.length a9.c2,.slice a9.a3 xk.run.length a9.c3,.int .i64 xk.tag,.int .i64 xk.call],.int .u8 3,.int .i64 0]) (RdA xk)),(PrFS w54b.drew.heap.size [9] (XM w54b.drew.heap.size [9] xk #[]) (fun a9 : A3 => .agg #[.slice a9.a1 xk.mem.al.length a9.c1,.int .i64 xk.mem.next,.slice a9.a2 xk.stks.length a9.c2,.slice a9.a3 xk.run.length a9.c3,.int .i64 xk.tag,.int .i64 xk.call]) (RdA xk)),PrS.eq _ (.int .u8 3),PrS.eq _ (.int .i64 0),(PrBx w54b.drew.heap.size [9] (XM w54b.drew.heap.size [9] xk #[]) 28 6),(PrSt w54b.drew.heap.size [9] (XM w54b.drew.heap.size [9] xk #[]) XM_st 28),PrS.eq _ (.int .u8 3),PrS.eq _ (.int .i64 0)] (by kernel_rfl) (by kernel_rfl) ?_ ?_
   ·refine ⟨?_,?_,?_,?_,?_,?_,?_,?_,?_,?_,?_,?_,?_,trivial⟩
    ·intro β a w hβ hE hd ho
     refine .inl ⟨rfl,?_⟩
     intro Kq hKq
     have hF : Ext w54b w:=Ext.trans ((Ext.refl _).drew) (hE.to_ext (Nat.le_refl _))
     have e3 : a.eval (.tmp 3) = .pointer (some ⟨w1.heap.size,0,none⟩):=ho 3 (by kernel_rfl)
     rw [eval_tmp] at e3
     have cbM_0w:=Ext.cell hF cbM_0
     have cbM_1w:=Ext.cell hF cbM_1
     have cbM_2w:=Ext.cell hF cbM_2
     have cbM_3w:=Ext.cell hF cbM_3
     have cbM_4w:=Ext.cell hF cbM_4
     have cbM_5w:=Ext.cell hF cbM_5
     clear cbM_0 cbM_1 cbM_2 cbM_3 cbM_4 cbM_5 cbP_0 cbP_1 cbP_2
     clear hd ho
     replace hKq:=Lib.hid hKq;replace hE:=Lib.hid hE;replace hβ:=Lib.hid hβ
     go_simp
     exact hKq.out _ _ rfl (RX.ext hβ.out (by decide) (Ext.refl _))
    ·intro β a w hβ hE hd ho
     refine .inl ⟨rfl,?_⟩
     intro Kq hKq
     have hF : Ext w54b w:=Ext.trans ((Ext.refl _).drew) (hE.to_ext (Nat.le_refl _))
     clear cbM_0 cbM_1 cbM_2 cbM_3 cbM_4 cbM_5 cbP_0 cbP_1 cbP_2
     clear hd ho
     replace hKq:=Lib.hid hKq;replace hE:=Lib.hid hE;replace hβ:=Lib.hid hβ
     go_simp
     exact hKq.out _ _ rfl (RX.ext hβ.out (by decide) (Ext.refl _))
    ·intro β a w hβ hE hd ho
     refine .inl ⟨rfl,?_⟩
     intro Kq hKq
     have hF : Ext w54b w:=Ext.trans ((Ext.refl _).drew) (hE.to_ext (Nat.le_refl _))
     clear cbM_0 cbM_1 cbM_2 cbM_3 cbM_4 cbM_5 cbP_0 cbP_1 cbP_2
     clear hd ho
     replace hKq:=Lib.hid hKq;replace hE:=Lib.hid hE;replace hβ:=Lib.hid hβ
     go_simp
     refine (law35_num 1 w).mono ?_
     rintro e wz ⟨rfl,hZ⟩
     dsimp only [Cell.val]
     go_simp
     exact hKq.out _ _ rfl (RX.ext hβ.out (by decide) hZ)
    ·intro β a w hβ hE hd ho
     refine .inl ⟨rfl,?_⟩
     intro Kq hKq
     have hF : Ext w54b w:=Ext.trans ((Ext.refl _).drew) (hE.to_ext (Nat.le_refl _))
     have e270 : a.eval (.tmp 270) = .agg #[.int .u8 1,.int .i64 1,.int .i64 0,.int .i64 0,.int .i64 0]:=(hd 2 (by kernel_rfl)).1
     rw [eval_tmp] at e270
     clear cbM_0 cbM_1 cbM_2 cbM_3 cbM_4 cbM_5 cbP_0 cbP_1 cbP_2
     clear hd ho
     replace hKq:=Lib.hid hKq;replace hE:=Lib.hid hE;replace hβ:=Lib.hid hβ
     go_simp
     exact hKq.out _ _ ⟨(some ⟨_,0,none⟩,1),rfl,FSb.new hE.out (by decide) hF.size (Cls.litF w #[.int .u8 1,.int .i64 1,.int .i64 0,.int .i64 0,.int .i64 0] [⟨1,1,0,0,0⟩] 1 rfl (by simp [maxLen]) rfl)⟩ (RX.ext hβ.out (by decide) ((Ext.refl _).alloc _))
    ·intro β a w hβ hE hd ho
     refine .inl ⟨rfl,?_⟩
     intro Kq hKq
     have hF : Ext w54b w:=Ext.trans ((Ext.refl _).drew) (hE.to_ext (Nat.le_refl _))
     have e268 : a.eval (.tmp 268) = .agg #[.slice v_ga givenM.mem.al.length v_gac,.int .i64 givenM.mem.next,.slice v_gk givenM.stks.length v_gkc,.slice v_gr givenM.run.length v_grc,.int .i64 givenM.tag,.int .i64 givenM.call]:=(hd 0 (by kernel_rfl)).1
     rw [eval_tmp] at e268
     have e269 : a.eval (.tmp 269) = .agg #[.int .i64 1,.int .i64 9,.int .i64 0]:=(hd 1 (by kernel_rfl)).1
     rw [eval_tmp] at e269
     obtain ⟨⟨y1_271,y2_271⟩,e271,g271⟩ : ∃ a9 : Option Addr × Nat,a.eval (.tmp 271) = .slice a9.1 1 a9.2∧FSb w54b.drew.heap.size [9] (β,w) (fun w=>Cls w (.slice a9.1 1 a9.2) [⟨1,1,0,0,0⟩]):=(hd 3 (by kernel_rfl)).1
     dsimp only at e271 g271
     rw [eval_tmp] at e271
     replace g271:=Lib.hid g271
     clear cbM_0 cbM_1 cbM_2 cbM_3 cbM_4 cbM_5 cbP_0 cbP_1 cbP_2
     clear hd ho
     replace hKq:=Lib.hid hKq;replace hE:=Lib.hid hE;replace hβ:=Lib.hid hβ
     go_simp
     refine (monitor_Store (m:=givenM) 1 9 0 (rr.out.1.ext hF) nx35 (rr.out.2.1.ext hF) (rr.out.2.2.ext hF) g271.out.read).mono ?_
     rintro e wz ⟨vt,rfl,fM,hZ⟩
     rw [hres9.out] at fM ⊢
     obtain ⟨⟨z1,z2,z3,z4,z5,z6⟩,rfl,q9⟩:=FrMon.a3 fM
     clear fM
     dsimp only at q9 ⊢
     go_simp
     exact hKq.out _ _ ⟨⟨z1,z2,z3,z4,z5,z6⟩,rfl,FSb.new hE.out (by decide) hF.size q9⟩ (RX.ext hβ.out (by decide) hZ)
    ·intro β a w hβ hE hd ho
     refine .inl ⟨rfl,?_⟩
     intro Kq hKq
     have hF : Ext w54b w:=Ext.trans ((Ext.refl _).drew) (hE.to_ext (Nat.le_refl _))
     obtain ⟨⟨y1_272,y2_272,y3_272,y4_272,y5_272,y6_272⟩,e272,g272⟩ : ∃ a9 : A3,a.eval (.tmp 272) = .tuple #[.agg #[.slice a9.a1 xk.mem.al.length a9.c1,.int .i64 xk.mem.next,.slice a9.a2 xk.stks.length a9.c2,.slice a9.a3 xk.run.length a9.c3,.int .i64 xk.tag,.int .i64 xk.call],.int .u8 3,.int .i64 0]∧FSb w54b.drew.heap.size [9] (β,w) (RdA xk a9):=(hd 4 (by kernel_rfl)).1
     dsimp only at e272
     rw [eval_tmp] at e272
     replace g272:=Lib.hid g272
     clear cbM_0 cbM_1 cbM_2 cbM_3 cbM_4 cbM_5 cbP_0 cbP_1 cbP_2
     clear hd ho
     replace hKq:=Lib.hid hKq;replace hE:=Lib.hid hE;replace hβ:=Lib.hid hβ
     go_simp
     exact hKq.out _ _ ⟨_,rfl,FSb.mono g272.out (RX0.ext hβ.out (by decide) (Ext.refl _))⟩ (RX.ext hβ.out (by decide) (Ext.refl _))
    ·intro β a w hβ hE hd ho
     refine .inl ⟨rfl,?_⟩
     intro Kq hKq
     have hF : Ext w54b w:=Ext.trans ((Ext.refl _).drew) (hE.to_ext (Nat.le_refl _))
     obtain ⟨⟨y1_267,y2_267,y3_267,y4_267,y5_267,y6_267⟩,e267,g267⟩ : ∃ a9 : A3,a.eval (.tmp 267) = .tuple #[.agg #[.slice a9.a1 xk.mem.al.length a9.c1,.int .i64 xk.mem.next,.slice a9.a2 xk.stks.length a9.c2,.slice a9.a3 xk.run.length a9.c3,.int .i64 xk.tag,.int .i64 xk.call],.int .u8 3,.int .i64 0]∧FSb w54b.drew.heap.size [9] (β,w) (RdA xk a9):=(hd 5 (by kernel_rfl)).1
     dsimp only at e267
     rw [eval_tmp] at e267
     replace g267:=Lib.hid g267
     clear cbM_0 cbM_1 cbM_2 cbM_3 cbM_4 cbM_5 cbP_0 cbP_1 cbP_2
     clear hd ho
     replace hKq:=Lib.hid hKq;replace hE:=Lib.hid hE;replace hβ:=Lib.hid hβ
     go_simp
     exact hKq.out _ _ ⟨_,rfl,FSb.mono g267.out (RX0.ext hβ.out (by decide) (Ext.refl _))⟩ (RX.ext hβ.out (by decide) (Ext.refl _))
    ·intro β a w hβ hE hd ho
     refine .inl ⟨rfl,?_⟩
     intro Kq hKq
     have hF : Ext w54b w:=Ext.trans ((Ext.refl _).drew) (hE.to_ext (Nat.le_refl _))
     obtain ⟨⟨y1_267,y2_267,y3_267,y4_267,y5_267,y6_267⟩,e267,g267⟩ : ∃ a9 : A3,a.eval (.tmp 267) = .tuple #[.agg #[.slice a9.a1 xk.mem.al.length a9.c1,.int .i64 xk.mem.next,.slice a9.a2 xk.stks.length a9.c2,.slice a9.a3 xk.run.length a9.c3,.int .i64 xk.tag,.int .i64 xk.call],.int .u8 3,.int .i64 0]∧FSb w54b.drew.heap.size [9] (β,w) (RdA xk a9):=(hd 5 (by kernel_rfl)).1
     dsimp only at e267
     rw [eval_tmp] at e267
     replace g267:=Lib.hid g267
     clear cbM_0 cbM_1 cbM_2 cbM_3 cbM_4 cbM_5 cbP_0 cbP_1 cbP_2
     clear hd ho
     replace hKq:=Lib.hid hKq;replace hE:=Lib.hid hE;replace hβ:=Lib.hid hβ
     go_simp
     exact hKq.out _ _ rfl (RX.ext hβ.out (by decide) (Ext.refl _))
    ·intro β a w hβ hE hd ho
     refine .inl ⟨rfl,?_⟩
     intro Kq hKq
     have hF : Ext w54b w:=Ext.trans ((Ext.refl _).drew) (hE.to_ext (Nat.le_refl _))
     obtain ⟨⟨y1_267,y2_267,y3_267,y4_267,y5_267,y6_267⟩,e267,g267⟩ : ∃ a9 : A3,a.eval (.tmp 267) = .tuple #[.agg #[.slice a9.a1 xk.mem.al.length a9.c1,.int .i64 xk.mem.next,.slice a9.a2 xk.stks.length a9.c2,.slice a9.a3 xk.run.length a9.c3,.int .i64 xk.tag,.int .i64 xk.call],.int .u8 3,.int .i64 0]∧FSb w54b.drew.heap.size [9] (β,w) (RdA xk a9):=(hd 5 (by kernel_rfl)).1
     dsimp only at e267
     rw [eval_tmp] at e267
     replace g267:=Lib.hid g267
     clear cbM_0 cbM_1 cbM_2 cbM_3 cbM_4 cbM_5 cbP_0 cbP_1 cbP_2
     clear hd ho
     replace hKq:=Lib.hid hKq;replace hE:=Lib.hid hE;replace hβ:=Lib.hid hβ
     go_simp
     exact hKq.out _ _ rfl (RX.ext hβ.out (by decide) (Ext.refl _))
    ·intro β a w hβ hE hd ho
     refine .inl ⟨rfl,?_⟩
     intro Kq hKq
     have hF : Ext w54b w:=Ext.trans ((Ext.refl _).drew) (hE.to_ext (Nat.le_refl _))
     clear cbM_0 cbM_1 cbM_2 cbM_3 cbM_4 cbM_5 cbP_0 cbP_1 cbP_2
     clear hd ho
     replace hKq:=Lib.hid hKq;replace hE:=Lib.hid hE;replace hβ:=Lib.hid hβ
     go_simp
     exact hKq.out _ _ ⟨_,rfl,hF.size,#[.slice none 0 0,.int .i64 0,.slice none 0 0,.slice none 0 0,.int .i64 0,.int .i64 0],rfl,Box.new _ _ _⟩ (RX.made hβ.out ((Ext.refl _).alloc _) (fun x e=>by cases e;exact ⟨Nat.le_refl _,by simp⟩))
    ·intro β a w hβ hE hd ho
     refine .inl ⟨rfl,?_⟩
     intro Kq hKq
     have hF : Ext w54b w:=Ext.trans ((Ext.refl _).drew) (hE.to_ext (Nat.le_refl _))
     obtain ⟨bq,eq,hNb,vs0,hv0,hbx⟩ : ∃ b,a.eval (.tmp 44) = .pointer (some ⟨b,0,none⟩)∧w54b.drew.heap.size≤b∧BoxT 28 6 w b:=(hd 9 (by kernel_rfl)).1
     have eqb : β 9=some (.pointer (some ⟨bq,0,none⟩)):=(hd 9 (by kernel_rfl)).2.trans (congrArg some eq)
     have eq0:=eq
     rw [eval_tmp] at eq
     obtain ⟨u0,u1,u2,u3,u4,u5,rfl⟩ : ∃ u0 u1 u2 u3 u4 u5,vs0=#[u0,u1,u2,u3,u4,u5]:=by match vs0,hv0 with | ⟨[u0,u1,u2,u3,u4,u5]⟩,_=>exact ⟨u0,u1,u2,u3,u4,u5,rfl⟩
     have bc0 : World.cell? w ⟨bq,0,none⟩=some u0:=hbx.cell 0
     have bf0:=hbx.frozen 0
     have bc1 : World.cell? w ⟨bq,1,none⟩=some u1:=hbx.cell 1
     have bf1:=hbx.frozen 1
     have bc2 : World.cell? w ⟨bq,2,none⟩=some u2:=hbx.cell 2
     have bf2:=hbx.frozen 2
     have bc3 : World.cell? w ⟨bq,3,none⟩=some u3:=hbx.cell 3
     have bf3:=hbx.frozen 3
     have bc4 : World.cell? w ⟨bq,4,none⟩=some u4:=hbx.cell 4
     have bf4:=hbx.frozen 4
     have bc5 : World.cell? w ⟨bq,5,none⟩=some u5:=hbx.cell 5
     have bf5:=hbx.frozen 5
     have hbl:=hbx.lt
     replace hbx:=Lib.hid hbx;replace eq0:=Lib.hid eq0;replace eqb:=Lib.hid eqb
     obtain ⟨⟨y1_273,y2_273,y3_273,y4_273,y5_273,y6_273⟩,e273,g273⟩ : ∃ a9 : A3,a.eval (.tmp 273) = .agg #[.slice a9.a1 xk.mem.al.length a9.c1,.int .i64 xk.mem.next,.slice a9.a2 xk.stks.length a9.c2,.slice a9.a3 xk.run.length a9.c3,.int .i64 xk.tag,.int .i64 xk.call]∧FSb w54b.drew.heap.size [9] (β,w) (RdA xk a9):=(hd 6 (by kernel_rfl)).1
     dsimp only at e273
     rw [eval_tmp] at e273
     replace g273:=Lib.hid g273
     clear cbM_0 cbM_1 cbM_2 cbM_3 cbM_4 cbM_5 cbP_0 cbP_1 cbP_2
     clear hd ho
     replace hKq:=Lib.hid hKq;replace hE:=Lib.hid hE;replace hβ:=Lib.hid hβ
     go_simp
     have hBx : Box (World.setCell (World.setCell (World.setCell (World.setCell (World.setCell (World.setCell w ⟨bq,0,none⟩ (.slice y1_273 xk.mem.al.length y2_273)) ⟨bq,1,none⟩ (.int .i64 xk.mem.next)) ⟨bq,2,none⟩ (.slice y3_273 xk.stks.length y4_273)) ⟨bq,3,none⟩ (.slice y5_273 xk.run.length y6_273)) ⟨bq,4,none⟩ (.int .i64 xk.tag)) ⟨bq,5,none⟩ (.int .i64 xk.call)) bq 28 #[.slice y1_273 xk.mem.al.length y2_273,.int .i64 xk.mem.next,.slice y3_273 xk.stks.length y4_273,.slice y5_273 xk.run.length y6_273,.int .i64 xk.tag,.int .i64 xk.call]:=(Box.set (Box.set (Box.set (Box.set (Box.set (Box.set hbx.out 0 (.slice y1_273 xk.mem.al.length y2_273)) 1 (.int .i64 xk.mem.next)) 2 (.slice y3_273 xk.stks.length y4_273)) 3 (.slice y5_273 xk.run.length y6_273)) 4 (.int .i64 xk.tag)) 5 (.int .i64 xk.call))
     have hXR:=RX.store (X:=XM w54b.drew.heap.size [9] xk #[]) (i:=10) (v:=a.eval (.tmp 44)) hβ.out (by decide) (j:=9) (by decide) eqb.out hNb (ExtBut.trans (ExtBut.trans (ExtBut.trans (ExtBut.trans (ExtBut.trans (ExtBut.setCell w ⟨bq,0,none⟩ (.slice y1_273 xk.mem.al.length y2_273)) (ExtBut.setCell (World.setCell w ⟨bq,0,none⟩ (.slice y1_273 xk.mem.al.length y2_273)) ⟨bq,1,none⟩ (.int .i64 xk.mem.next))) (ExtBut.setCell (World.setCell (World.setCell w ⟨bq,0,none⟩ (.slice y1_273 xk.mem.al.length y2_273)) ⟨bq,1,none⟩ (.int .i64 xk.mem.next)) ⟨bq,2,none⟩ (.slice y3_273 xk.stks.length y4_273))) (ExtBut.setCell (World.setCell (World.setCell (World.setCell w ⟨bq,0,none⟩ (.slice y1_273 xk.mem.al.length y2_273)) ⟨bq,1,none⟩ (.int .i64 xk.mem.next)) ⟨bq,2,none⟩ (.slice y3_273 xk.stks.length y4_273)) ⟨bq,3,none⟩ (.slice y5_273 xk.run.length y6_273))) (ExtBut.setCell (World.setCell (World.setCell (World.setCell (World.setCell w ⟨bq,0,none⟩ (.slice y1_273 xk.mem.al.length y2_273)) ⟨bq,1,none⟩ (.int .i64 xk.mem.next)) ⟨bq,2,none⟩ (.slice y3_273 xk.stks.length y4_273)) ⟨bq,3,none⟩ (.slice y5_273 xk.run.length y6_273)) ⟨bq,4,none⟩ (.int .i64 xk.tag))) (ExtBut.setCell (World.setCell (World.setCell (World.setCell (World.setCell (World.setCell w ⟨bq,0,none⟩ (.slice y1_273 xk.mem.al.length y2_273)) ⟨bq,1,none⟩ (.int .i64 xk.mem.next)) ⟨bq,2,none⟩ (.slice y3_273 xk.stks.length y4_273)) ⟨bq,3,none⟩ (.slice y5_273 xk.run.length y6_273)) ⟨bq,4,none⟩ (.int .i64 xk.tag)) ⟨bq,5,none⟩ (.int .i64 xk.call))) hbx.out hBx rfl (fun hR0=>⟨fun _=>⟨⟨y1_273,y2_273,y3_273,y4_273,y5_273,y6_273⟩,rfl,FSb.mono g273.out hR0⟩,fun h=>by cases h⟩)
     exact hKq.out undef (World.setCell (World.setCell (World.setCell (World.setCell (World.setCell (World.setCell w ⟨bq,0,none⟩ (.slice y1_273 xk.mem.al.length y2_273)) ⟨bq,1,none⟩ (.int .i64 xk.mem.next)) ⟨bq,2,none⟩ (.slice y3_273 xk.stks.length y4_273)) ⟨bq,3,none⟩ (.slice y5_273 xk.run.length y6_273)) ⟨bq,4,none⟩ (.int .i64 xk.tag)) ⟨bq,5,none⟩ (.int .i64 xk.call)) ⟨bq,_,eq0.out,hNb,hBx,hXR.1⟩ hXR.2
    ·intro β a w hβ hE hd ho
     refine .inl ⟨rfl,?_⟩
     intro Kq hKq
     have hF : Ext w54b w:=Ext.trans ((Ext.refl _).drew) (hE.to_ext (Nat.le_refl _))
     have e274 : a.eval (.tmp 274) = .int .u8 3:=(hd 7 (by kernel_rfl)).1
     rw [eval_tmp] at e274
     clear cbM_0 cbM_1 cbM_2 cbM_3 cbM_4 cbM_5 cbP_0 cbP_1 cbP_2
     clear hd ho
     replace hKq:=Lib.hid hKq;replace hE:=Lib.hid hE;replace hβ:=Lib.hid hβ
     go_simp
     exact hKq.out _ _ rfl (RX.ext hβ.out (by decide) (Ext.refl _))
    ·intro β a w hβ hE hd ho
     refine .inl ⟨rfl,?_⟩
     intro Kq hKq
     have hF : Ext w54b w:=Ext.trans ((Ext.refl _).drew) (hE.to_ext (Nat.le_refl _))
     have e275 : a.eval (.tmp 275) = .int .i64 0:=(hd 8 (by kernel_rfl)).1
     rw [eval_tmp] at e275
     clear cbM_0 cbM_1 cbM_2 cbM_3 cbM_4 cbM_5 cbP_0 cbP_1 cbP_2
     clear hd ho
     replace hKq:=Lib.hid hKq;replace hE:=Lib.hid hE;replace hβ:=Lib.hid hβ
     go_simp
     exact hKq.out _ _ rfl (RX.ext hβ.out (by decide) (Ext.refl _))
   ·intro vals β Ac wq hAc hE hv hsv hbv
    have hF : Ext w54b wq:=Ext.trans ((Ext.refl _).drew) (hE.to_ext (Nat.le_refl _))
    obtain ⟨bZ_a,vs9,eb,-,bZ,hXX⟩:=hv 10 (by decide)
    obtain ⟨⟨v_ka,v_kac,v_kk,v_kkc,v_kr,v_krc⟩,rfl,hq9⟩:=hXX.1 rfl
    dsimp only at bZ
    have e1 : vals 9 = .pointer (some ⟨bZ_a,0,none⟩):=((hsv 9).trans (hsv 10).symm).trans eb
    have e2 : vals 11 = .int .u8 3:=hv 11 (by decide)
    have e3 : vals 12 = .int .i64 0:=hv 12 (by decide)
    have qk : Fq (fun b=>b≠w6.heap.size∧True) wq (fun w=>RdA xk ⟨v_ka,v_kac,v_kk,v_kkc,v_kr,v_krc⟩ w):=Fq.mono hq9 (fun b h1 hl=>⟨by have g9:=ltbF;have h9 : w54b.heap.size≤b:=h1.1;omega,trivial⟩)
    clear hv hsv hbv hE eb hXX hq9 cbM_0 cbM_1 cbM_2 cbM_3 cbM_4 cbM_5 cbP_0 cbP_1 cbP_2
    subst hAc
    simp only [putAll]
    go_simp
    try rw [e1,e2,e3]
    clear e1 e2 e3
    obtain ⟨w56q,hwq⟩ : ∃ z,wq=z:=⟨_,rfl⟩
    rw [hwq] at hF qk bZ ⊢
    clear hwq
    replace bM:=bM.ext hF
    replace bP:=bP.ext hF
    replace bF:=bF.ext hF
    replace Gg:=Lib.hid (Fq.ext Gg.out hF)
    replace Gf:=Lib.hid (Fq.ext Gf.out hF)
    have hF57:=Ext.trans hF55 hF
    have Gk:=Lib.hid qk;clear qk
    clear rr hres9
    clear Gk
    clear bZ
    obtain ⟨xl,hl⟩:=d35l
    replace hl:=Lib.hid hl
    obtain ⟨bM_0,bM_1,bM_2,bM_3,bM_4,bM_5,bM_l⟩:=bM.c6
    obtain ⟨bP_0,bP_1,bP_2,bP_l⟩:=bP.c3
    go_wp2_with fail
    clear bM_0 bM_1 bM_2 bM_3 bM_4 bM_5 bM_l bP_0 bP_1 bP_2 bP_l
    have ne_bF_bL : Hid (w6.heap.size≠w56q.heap.size):=Hid.mk (by have h9:=bF.lt;omega)
    have bL:=Box.new w56q 54 #[.int .u8 9,.int .i64 0,.int .i64 0,.int .i64 0,.int .i64 0]
    have hza : (World.alloc w56q (.cells #[.int .u8 9,.int .i64 0,.int .i64 0,.int .i64 0,.int .i64 0] 54)).heap.size=w56q.heap.size+1:=by rw [World.size_alloc]
    have hx58 : Ext w56q (World.alloc w56q (.cells #[.int .u8 9,.int .i64 0,.int .i64 0,.int .i64 0,.int .i64 0] 54)):=(Ext.refl _).alloc _
    obtain ⟨w58b,hw58⟩ : ∃ z,World.alloc w56q (.cells #[.int .u8 9,.int .i64 0,.int .i64 0,.int .i64 0,.int .i64 0] 54)=z:=⟨_,rfl⟩
    rw [hw58] at bL hx58 hza ⊢
    clear hw58
    have hzb0:=hza
    clear hza
    replace bM:=bM.ext hx58
    replace bP:=bP.ext hx58
    replace bF:=bF.ext hx58
    replace Gg:=Lib.hid (Fq.ext Gg.out hx58)
    replace Gf:=Lib.hid (Fq.ext Gf.out hx58)
    have hF59:=Ext.trans hF57 hx58
    clear hzb0
    have ltbF:=Lib.hid bF.lt
    refine (monitor_Store (m:=givenM) (l:=[⟨9,0,0,0,0⟩]) 0 0 1 Gg.out.read.1 nx35 Gg.out.read.2.1 Gg.out.read.2.2 (Sl.of_boxN bL rfl (by simp [maxLen]))).mono ?_
    rintro e w60 ⟨vt,rfl,fM,hE60⟩
    replace bM:=bM.ext hE60
    replace bP:=bP.ext hE60
    replace bF:=bF.ext hE60
    replace bL:=bL.ext hE60
    replace Gg:=Lib.hid (Fq.ext Gg.out hE60)
    replace Gf:=Lib.hid (Fq.ext Gf.out hE60)
    have hF60:=Ext.trans hF59 hE60
    rw [hl.out] at fM ⊢
    obtain ⟨lsa,lss,lsr,rfl,ql⟩:=FrMon.parts fM
    clear fM
    obtain ⟨v_la,v_lac,rfl,-⟩:=(ql.read).1.form
    obtain ⟨v_lk,v_lkc,rfl,-⟩:=(ql.read).2.1.form
    obtain ⟨v_lr,v_lrc,rfl,-⟩:=(ql.read).2.2.form
    try dsimp only at ql ⊢
    have Gl:=Lib.hid (Fq.mono (S':=(fun b=>b≠w6.heap.size∧True)) ql (fun b h1 _=>by have gbF:=ltbF.out;exact ⟨by omega,trivial⟩))
    clear ql ltbF
    clear bL
    clear Gl
    obtain ⟨xn,hn⟩:=d35n
    replace hn:=Lib.hid hn
    obtain ⟨bM_0,bM_1,bM_2,bM_3,bM_4,bM_5,bM_l⟩:=bM.c6
    go_wp2_with fail
    clear bM_0 bM_1 bM_2 bM_3 bM_4 bM_5 bM_l
    have ne_bF_bZ : Hid (w6.heap.size≠w60.heap.size):=Hid.mk (by have h9:=bF.lt;omega)
    have bZ:=Box.new w60 28 #[.slice v_la xl.mem.al.length v_lac,.int .i64 xl.mem.next,.slice v_lk xl.stks.length v_lkc,.slice v_lr xl.run.length v_lrc,.int .i64 xl.tag,.int .i64 xl.call]
    have hza : (World.alloc w60 (.cells #[.slice v_la xl.mem.al.length v_lac,.int .i64 xl.mem.next,.slice v_lk xl.stks.length v_lkc,.slice v_lr xl.run.length v_lrc,.int .i64 xl.tag,.int .i64 xl.call] 28)).heap.size=w60.heap.size+1:=by rw [World.size_alloc]
    have hx61 : Ext w60 (World.alloc w60 (.cells #[.slice v_la xl.mem.al.length v_lac,.int .i64 xl.mem.next,.slice v_lk xl.stks.length v_lkc,.slice v_lr xl.run.length v_lrc,.int .i64 xl.tag,.int .i64 xl.call] 28)):=(Ext.refl _).alloc _
    obtain ⟨w61b,hw61⟩ : ∃ z,World.alloc w60 (.cells #[.slice v_la xl.mem.al.length v_lac,.int .i64 xl.mem.next,.slice v_lk xl.stks.length v_lkc,.slice v_lr xl.run.length v_lrc,.int .i64 xl.tag,.int .i64 xl.call] 28)=z:=⟨_,rfl⟩
    rw [hw61] at bZ hx61 hza ⊢
    clear hw61
    have hzb0:=hza
    clear hza
    replace bM:=bM.ext hx61
    replace bP:=bP.ext hx61
    replace bF:=bF.ext hx61
    replace Gg:=Lib.hid (Fq.ext Gg.out hx61)
    replace Gf:=Lib.hid (Fq.ext Gf.out hx61)
    have hF62:=Ext.trans hF60 hx61
    clear hzb0
    have ltbF:=Lib.hid bF.lt
    refine (monitor_End (m:=givenM) 1 Gg.out.read.1 nx35 Gg.out.read.2.1 Gg.out.read.2.2).mono ?_
    rintro e w63 ⟨vt,rfl,fM,hE63⟩
    replace bM:=bM.ext hE63
    replace bP:=bP.ext hE63
    replace bF:=bF.ext hE63
    replace bZ:=bZ.ext hE63
    replace Gg:=Lib.hid (Fq.ext Gg.out hE63)
    replace Gf:=Lib.hid (Fq.ext Gf.out hE63)
    have hF63:=Ext.trans hF62 hE63
    rw [hn.out] at fM ⊢
    try dsimp only [Ptr.val] at fM ⊢
    obtain ⟨nsa,nss,nsr,rfl,qn⟩:=FrMon.parts fM
    clear fM
    obtain ⟨v_na,v_nac,rfl,-⟩:=(qn.read).1.form
    obtain ⟨v_nk,v_nkc,rfl,-⟩:=(qn.read).2.1.form
    obtain ⟨v_nr,v_nrc,rfl,-⟩:=(qn.read).2.2.form
    try dsimp only at qn ⊢
    have Gn:=Lib.hid (Fq.mono (S':=(fun b=>b≠w6.heap.size∧True)) qn (fun b h1 _=>by have gbF:=ltbF.out;exact ⟨by omega,trivial⟩))
    clear qn ltbF
    clear bZ
    clear Gn
    obtain ⟨xo,x9,xr,xw,lw,ho,nxo,hr,hw,hr1,hr2,hr3,hx9⟩:=d35o
    replace ho:=Lib.hid ho
    replace nxo:=Lib.hid nxo
    replace hr:=Lib.hid hr
    replace hw:=Lib.hid hw
    replace hr1:=Lib.hid hr1
    replace hr2:=Lib.hid hr2
    replace hr3:=Lib.hid hr3
    replace hx9:=Lib.hid hx9
    obtain ⟨bM_0,bM_1,bM_2,bM_3,bM_4,bM_5,bM_l⟩:=bM.c6
    go_wp2_with fail
    clear bM_0 bM_1 bM_2 bM_3 bM_4 bM_5 bM_l
    have ne_bF_bZ : Hid (w6.heap.size≠w63.heap.size):=Hid.mk (by have h9:=bF.lt;omega)
    have bZ:=Box.new w63 28 #[.slice v_na xn.mem.al.length v_nac,.int .i64 xn.mem.next,.slice v_nk xn.stks.length v_nkc,.slice v_nr xn.run.length v_nrc,.int .i64 xn.tag,.int .i64 xn.call]
    have hza : (World.alloc w63 (.cells #[.slice v_na xn.mem.al.length v_nac,.int .i64 xn.mem.next,.slice v_nk xn.stks.length v_nkc,.slice v_nr xn.run.length v_nrc,.int .i64 xn.tag,.int .i64 xn.call] 28)).heap.size=w63.heap.size+1:=by rw [World.size_alloc]
    have hx64 : Ext w63 (World.alloc w63 (.cells #[.slice v_na xn.mem.al.length v_nac,.int .i64 xn.mem.next,.slice v_nk xn.stks.length v_nkc,.slice v_nr xn.run.length v_nrc,.int .i64 xn.tag,.int .i64 xn.call] 28)):=(Ext.refl _).alloc _
    obtain ⟨w64b,hw64⟩ : ∃ z,World.alloc w63 (.cells #[.slice v_na xn.mem.al.length v_nac,.int .i64 xn.mem.next,.slice v_nk xn.stks.length v_nkc,.slice v_nr xn.run.length v_nrc,.int .i64 xn.tag,.int .i64 xn.call] 28)=z:=⟨_,rfl⟩
    rw [hw64] at bZ hx64 hza ⊢
    clear hw64
    have hzb0:=hza
    clear hza
    replace bM:=bM.ext hx64
    replace bP:=bP.ext hx64
    replace bF:=bF.ext hx64
    replace Gg:=Lib.hid (Fq.ext Gg.out hx64)
    replace Gf:=Lib.hid (Fq.ext Gf.out hx64)
    have hF65:=Ext.trans hF63 hx64
    clear hzb0
    have ltbF:=Lib.hid bF.lt
    refine (monitor_End (m:=givenM) 0 Gg.out.read.1 nx35 Gg.out.read.2.1 Gg.out.read.2.2).mono ?_
    rintro e w66 ⟨vt,rfl,fM,hE66⟩
    replace bM:=bM.ext hE66
    replace bP:=bP.ext hE66
    replace bF:=bF.ext hE66
    replace bZ:=bZ.ext hE66
    replace Gg:=Lib.hid (Fq.ext Gg.out hE66)
    replace Gf:=Lib.hid (Fq.ext Gf.out hE66)
    have hF66:=Ext.trans hF65 hE66
    rw [ho.out] at fM ⊢
    try dsimp only [Ptr.val] at fM ⊢
    obtain ⟨osa,oss,osr,rfl,qo⟩:=FrMon.parts fM
    clear fM
    obtain ⟨v_oa,v_oac,rfl,-⟩:=(qo.read).1.form
    obtain ⟨v_ok,v_okc,rfl,-⟩:=(qo.read).2.1.form
    obtain ⟨v_or,v_orc,rfl,-⟩:=(qo.read).2.2.form
    try dsimp only at qo ⊢
    have Go:=Lib.hid (Fq.mono (S':=(fun b=>b≠w6.heap.size∧True)) qo (fun b h1 _=>by have gbF:=ltbF.out;exact ⟨by omega,trivial⟩))
    clear qo ltbF
    clear bZ
    obtain ⟨xh,⟨qh1,qh2,qh3⟩,xs,xt,xq,xz,xu,hh9,nxh,hs,ht,hq,nxq,hz,hu⟩:=d35r
    replace hh9:=Lib.hid hh9
    replace nxh:=Lib.hid nxh
    replace hs:=Lib.hid hs
    replace ht:=Lib.hid ht
    replace hq:=Lib.hid hq
    replace nxq:=Lib.hid nxq
    replace hz:=Lib.hid hz
    replace hu:=Lib.hid hu
    obtain ⟨bM_0,bM_1,bM_2,bM_3,bM_4,bM_5,bM_l⟩:=bM.c6
    obtain ⟨bP_0,bP_1,bP_2,bP_l⟩:=bP.c3
    go_wp2_with fail
    clear bM_0 bM_1 bM_2 bM_3 bM_4 bM_5 bM_l bP_0 bP_1 bP_2 bP_l
    have ne_bF_bO : Hid (w6.heap.size≠w66.heap.size):=Hid.mk (by have h9:=bF.lt;omega)
    have bO:=Box.new w66 28 #[.slice v_oa xo.mem.al.length v_oac,.int .i64 xo.mem.next,.slice v_ok xo.stks.length v_okc,.slice v_or xo.run.length v_orc,.int .i64 xo.tag,.int .i64 xo.call]
    have hza : (World.alloc w66 (.cells #[.slice v_oa xo.mem.al.length v_oac,.int .i64 xo.mem.next,.slice v_ok xo.stks.length v_okc,.slice v_or xo.run.length v_orc,.int .i64 xo.tag,.int .i64 xo.call] 28)).heap.size=w66.heap.size+1:=by rw [World.size_alloc]
    have hx67 : Ext w66 (World.alloc w66 (.cells #[.slice v_oa xo.mem.al.length v_oac,.int .i64 xo.mem.next,.slice v_ok xo.stks.length v_okc,.slice v_or xo.run.length v_orc,.int .i64 xo.tag,.int .i64 xo.call] 28)):=(Ext.refl _).alloc _
    obtain ⟨w67b,hw67⟩ : ∃ z,World.alloc w66 (.cells #[.slice v_oa xo.mem.al.length v_oac,.int .i64 xo.mem.next,.slice v_ok xo.stks.length v_okc,.slice v_or xo.run.length v_orc,.int .i64 xo.tag,.int .i64 xo.call] 28)=z:=⟨_,rfl⟩
    rw [hw67] at bO hx67 hza ⊢
    clear hw67
    have hzb0:=hza
    clear hza
    replace bM:=bM.ext hx67
    replace bP:=bP.ext hx67
    replace bF:=bF.ext hx67
    replace Gg:=Lib.hid (Fq.ext Gg.out hx67)
    replace Gf:=Lib.hid (Fq.ext Gf.out hx67)
    replace Go:=Lib.hid (Fq.ext Go.out hx67)
    have hF68:=Ext.trans hF66 hx67
    clear hzb0
    have ltbF:=Lib.hid bF.lt
    refine (monitor_Retag (m:=givenM) (kind:=1) 0 0 1 2 1 (hp.out.ext hF68) (by unfold u8B;decide) Gg.out.read.1 nx35 Gg.out.read.2.1 Gg.out.read.2.2).mono ?_
    rintro e w69 ⟨vt,rfl,fM,hE69⟩
    replace bM:=bM.ext hE69
    replace bP:=bP.ext hE69
    replace bF:=bF.ext hE69
    replace bO:=bO.ext hE69
    replace Gg:=Lib.hid (Fq.ext Gg.out hE69)
    replace Gf:=Lib.hid (Fq.ext Gf.out hE69)
    replace Go:=Lib.hid (Fq.ext Go.out hE69)
    have hF69:=Ext.trans hF68 hE69
    rw [hh9.out] at fM ⊢
    try dsimp only [Ptr.val] at fM ⊢
    obtain ⟨hsa,hss,hsr,rfl,qh⟩:=FrMon.parts fM
    clear fM
    obtain ⟨v_ha,v_hac,rfl,-⟩:=(qh.read).1.form
    obtain ⟨v_hk,v_hkc,rfl,-⟩:=(qh.read).2.1.form
    obtain ⟨v_hr,v_hrc,rfl,-⟩:=(qh.read).2.2.form
    try dsimp only at qh ⊢
    have Gh:=Lib.hid (Fq.mono (S':=(fun b=>b≠w6.heap.size∧True)) qh (fun b h1 _=>by have gbF:=ltbF.out;exact ⟨by omega,trivial⟩))
    clear qh ltbF
    go_wp2_with fail
    have ne_bF_bH : Hid (w6.heap.size≠w69.heap.size):=Hid.mk (by have h9:=bF.lt;omega)
    have bH:=Box.new w69 28 #[.slice v_ha xh.mem.al.length v_hac,.int .i64 xh.mem.next,.slice v_hk xh.stks.length v_hkc,.slice v_hr xh.run.length v_hrc,.int .i64 xh.tag,.int .i64 xh.call]
    have hza : (World.alloc w69 (.cells #[.slice v_ha xh.mem.al.length v_hac,.int .i64 xh.mem.next,.slice v_hk xh.stks.length v_hkc,.slice v_hr xh.run.length v_hrc,.int .i64 xh.tag,.int .i64 xh.call] 28)).heap.size=w69.heap.size+1:=by rw [World.size_alloc]
    have hx70 : Ext w69 (World.alloc w69 (.cells #[.slice v_ha xh.mem.al.length v_hac,.int .i64 xh.mem.next,.slice v_hk xh.stks.length v_hkc,.slice v_hr xh.run.length v_hrc,.int .i64 xh.tag,.int .i64 xh.call] 28)):=(Ext.refl _).alloc _
    obtain ⟨w70b,hw70⟩ : ∃ z,World.alloc w69 (.cells #[.slice v_ha xh.mem.al.length v_hac,.int .i64 xh.mem.next,.slice v_hk xh.stks.length v_hkc,.slice v_hr xh.run.length v_hrc,.int .i64 xh.tag,.int .i64 xh.call] 28)=z:=⟨_,rfl⟩
    rw [hw70] at bH hx70 hza ⊢
    clear hw70
    have hzb0:=hza
    clear hza
    replace bM:=bM.ext hx70
    replace bP:=bP.ext hx70
    replace bF:=bF.ext hx70
    replace bO:=bO.ext hx70
    replace Gg:=Lib.hid (Fq.ext Gg.out hx70)
    replace Gf:=Lib.hid (Fq.ext Gf.out hx70)
    replace Go:=Lib.hid (Fq.ext Go.out hx70)
    replace Gh:=Lib.hid (Fq.ext Gh.out hx70)
    have hF71:=Ext.trans hF69 hx70
    have ne_bF_bY : Hid (w6.heap.size≠w69.heap.size+1):=Hid.mk (by have hz9:=hzb0;have h9:=bF.lt;omega)
    have bY:=Box.new w70b 43 #[.int .i64 qh1,.int .i64 qh2,.int .i64 qh3]
    rw [hzb0] at bY
    have hza : (World.alloc w70b (.cells #[.int .i64 qh1,.int .i64 qh2,.int .i64 qh3] 43)).heap.size=w69.heap.size+2:=by rw [World.size_alloc,hzb0]
    have hx72 : Ext w70b (World.alloc w70b (.cells #[.int .i64 qh1,.int .i64 qh2,.int .i64 qh3] 43)):=(Ext.refl _).alloc _
    obtain ⟨w72b,hw72⟩ : ∃ z,World.alloc w70b (.cells #[.int .i64 qh1,.int .i64 qh2,.int .i64 qh3] 43)=z:=⟨_,rfl⟩
    rw [hw72] at bY hx72 hza ⊢
    clear hw72
    clear hzb0
    have hzb1:=hza
    clear hza
    replace bM:=bM.ext hx72
    replace bP:=bP.ext hx72
    replace bF:=bF.ext hx72
    replace bO:=bO.ext hx72
    replace bH:=bH.ext hx72
    replace Gg:=Lib.hid (Fq.ext Gg.out hx72)
    replace Gf:=Lib.hid (Fq.ext Gf.out hx72)
    replace Go:=Lib.hid (Fq.ext Go.out hx72)
    replace Gh:=Lib.hid (Fq.ext Gh.out hx72)
    have hF73:=Ext.trans hF71 hx72
    clear hzb1
    have ltbF:=Lib.hid bF.lt
    refine (monitor_End (m:=xh) 0 Gh.out.read.1 nxh.out Gh.out.read.2.1 Gh.out.read.2.2).mono ?_
    rintro e w74 ⟨vt,rfl,fM,hE74⟩
    replace bM:=bM.ext hE74
    replace bP:=bP.ext hE74
    replace bF:=bF.ext hE74
    replace bO:=bO.ext hE74
    replace bH:=bH.ext hE74
    replace bY:=bY.ext hE74
    replace Gg:=Lib.hid (Fq.ext Gg.out hE74)
    replace Gf:=Lib.hid (Fq.ext Gf.out hE74)
    replace Go:=Lib.hid (Fq.ext Go.out hE74)
    replace Gh:=Lib.hid (Fq.ext Gh.out hE74)
    have hF74:=Ext.trans hF73 hE74
    rw [hs.out] at fM ⊢
    try dsimp only [Ptr.val] at fM ⊢
    obtain ⟨ssa,sss,ssr,rfl,qs⟩:=FrMon.parts fM
    clear fM
    obtain ⟨v_sa,v_sac,rfl,-⟩:=(qs.read).1.form
    obtain ⟨v_sk,v_skc,rfl,-⟩:=(qs.read).2.1.form
    obtain ⟨v_sr,v_src,rfl,-⟩:=(qs.read).2.2.form
    try dsimp only at qs ⊢
    have Gs:=Lib.hid (Fq.mono (S':=(fun b=>b≠w6.heap.size∧True)) qs (fun b h1 _=>by have gbF:=ltbF.out;exact ⟨by omega,trivial⟩))
    clear qs ltbF
    clear bY
    clear Gs
    go_upto_region 52 with fail
    have ne_bF_bZ : Hid (w6.heap.size≠w74.heap.size):=Hid.mk (by have h9:=bF.lt;omega)
    have bZ:=Box.new w74 28 #[.slice v_sa xs.mem.al.length v_sac,.int .i64 xs.mem.next,.slice v_sk xs.stks.length v_skc,.slice v_sr xs.run.length v_src,.int .i64 xs.tag,.int .i64 xs.call]
    have hza : (World.alloc w74 (.cells #[.slice v_sa xs.mem.al.length v_sac,.int .i64 xs.mem.next,.slice v_sk xs.stks.length v_skc,.slice v_sr xs.run.length v_src,.int .i64 xs.tag,.int .i64 xs.call] 28)).heap.size=w74.heap.size+1:=by rw [World.size_alloc]
    have hx75 : Ext w74 (World.alloc w74 (.cells #[.slice v_sa xs.mem.al.length v_sac,.int .i64 xs.mem.next,.slice v_sk xs.stks.length v_skc,.slice v_sr xs.run.length v_src,.int .i64 xs.tag,.int .i64 xs.call] 28)):=(Ext.refl _).alloc _
    obtain ⟨w75b,hw75⟩ : ∃ z,World.alloc w74 (.cells #[.slice v_sa xs.mem.al.length v_sac,.int .i64 xs.mem.next,.slice v_sk xs.stks.length v_skc,.slice v_sr xs.run.length v_src,.int .i64 xs.tag,.int .i64 xs.call] 28)=z:=⟨_,rfl⟩
    rw [hw75] at bZ hx75 hza ⊢
    clear hw75
    have hzb0:=hza
    clear hza
    replace bM:=bM.ext hx75
    replace bP:=bP.ext hx75
    replace bF:=bF.ext hx75
    replace bO:=bO.ext hx75
    replace bH:=bH.ext hx75
    replace Gg:=Lib.hid (Fq.ext Gg.out hx75)
    replace Gf:=Lib.hid (Fq.ext Gf.out hx75)
    replace Go:=Lib.hid (Fq.ext Go.out hx75)
    replace Gh:=Lib.hid (Fq.ext Gh.out hx75)
    have hF76:=Ext.trans hF74 hx75
    clear hzb0
    clear bZ
    have hres9:=ht
    have rr:=Lib.hid Gh.out.read
    go_upto_region 52 with fail
    have cbH_0 : World.cell? w75b ⟨w69.heap.size,0,none⟩=some (.slice v_ha xh.mem.al.length v_hac):=bH.cell 0
    have cbH_1 : World.cell? w75b ⟨w69.heap.size,1,none⟩=some (.int .i64 xh.mem.next):=bH.cell 1
    have cbH_2 : World.cell? w75b ⟨w69.heap.size,2,none⟩=some (.slice v_hk xh.stks.length v_hkc):=bH.cell 2
    have cbH_3 : World.cell? w75b ⟨w69.heap.size,3,none⟩=some (.slice v_hr xh.run.length v_hrc):=bH.cell 3
    have cbH_4 : World.cell? w75b ⟨w69.heap.size,4,none⟩=some (.int .i64 xh.tag):=bH.cell 4
    have cbH_5 : World.cell? w75b ⟨w69.heap.size,5,none⟩=some (.int .i64 xh.call):=bH.cell 5
    have cbP_0 : World.cell? w75b ⟨BP,0,none⟩=some (.int .i64 0):=bP.cell 0
    have cbP_1 : World.cell? w75b ⟨BP,1,none⟩=some (.int .i64 0):=bP.cell 1
    have cbP_2 : World.cell? w75b ⟨BP,2,none⟩=some (.int .i64 1):=bP.cell 2
    have ltbF:=bF.lt
    refine wp_region_st (R:=RX w75b.drew.heap.size [9] (XM w75b.drew.heap.size [9] xt #[])) RX.refl (fun _ _ _=>RX.trans XM_st) [PrS.eq _ (.agg #[.slice v_ha xh.mem.al.length v_hac,.int .i64 xh.mem.next,.slice v_hk xh.stks.length v_hkc,.slice v_hr xh.run.length v_hrc,.int .i64 xh.tag,.int .i64 xh.call]),PrS.eq _ (.agg #[.int .i64 0,.int .i64 0,.int .i64 1]),PrS.eq _ (.agg #[.int .u8 1,.int .i64 1,.int .i64 0,.int .i64 0,.int .i64 0]),(PrFS w75b.drew.heap.size [9] (XM w75b.drew.heap.size [9] xt #[]) (fun a9 : Option Addr × Nat => .slice a9.1 1 a9.2) (fun a9 w=>Cls w (.slice a9.1 1 a9.2) [⟨1,1,0,0,0⟩])),(PrFS w75b.drew.heap.size [9] (XM w75b.drew.heap.size [9] xt #[]) (fun a9 : A3 => .tuple #[.agg #[.slice a9.a1 xt.mem.al.length a9.c1,.int .i64 xt.mem.next,.slice a9.a2 xt.stks.length a9.c2,.slice a9.a3 xt.run.length a9.c3,.int .i64 xt.tag,.int .i64 xt.call],.int .u8 2,.int .i64 0]) (RdA xt)),(PrFS w75b.drew.heap.size [9] (XM w75b.drew.heap.size [9] xt #[]) (fun a9 : A3 => .tuple #[.agg #[.slice a9.a1 xt.mem.al.length a9.c1,.int .i64 xt.mem.next,.slice a9.a2 xt.stks.length a9.c2,.slice a9.a3 xt.run.length a9.c3,.int .i64 xt.tag,.int .i64 xt.call],.int .u8 2,.int .i64 0]) (RdA xt)),(PrFS w75b.drew.heap.size [9] (XM w75b.drew.heap.size [9] xt #[]) (fun a9 : A3 => .agg #[.slice a9.a1 xt.mem.al.length a9.c1,.int .i64 xt.mem.next,.slice a9.a2 xt.stks.length a9.c2,.slice a9.a3 xt.run.length a9.c3,.int .i64 xt.tag,.int .i64 xt.call]) (RdA xt)),PrS.eq _ (.int .u8 2),PrS.eq _ (.int .i64 0),(PrBx w75b.drew.heap.size [9] (XM w75b.drew.heap.size [9] xt #[]) 28 6),(PrSt w75b.drew.heap.size [9] (XM w75b.drew.heap.size [9] xt #[]) XM_st 28),PrS.eq _ (.int .u8 2),PrS.eq _ (.int .i64 0)] (by kernel_rfl) (by kernel_rfl) ?_ ?_
    ·refine ⟨?_,?_,?_,?_,?_,?_,?_,?_,?_,?_,?_,?_,?_,trivial⟩
     ·intro β a w hβ hE hd ho
      refine .inl ⟨rfl,?_⟩
      intro Kq hKq
      have hF : Ext w75b w:=Ext.trans ((Ext.refl _).drew) (hE.to_ext (Nat.le_refl _))
      have e56 : a.eval (.tmp 56) = .pointer (some ⟨w69.heap.size,0,none⟩):=ho 56 (by kernel_rfl)
      rw [eval_tmp] at e56
      have cbH_0w:=Ext.cell hF cbH_0
      have cbH_1w:=Ext.cell hF cbH_1
      have cbH_2w:=Ext.cell hF cbH_2
      have cbH_3w:=Ext.cell hF cbH_3
      have cbH_4w:=Ext.cell hF cbH_4
      have cbH_5w:=Ext.cell hF cbH_5
      clear cbH_0 cbH_1 cbH_2 cbH_3 cbH_4 cbH_5 cbP_0 cbP_1 cbP_2
      clear hd ho
      replace hKq:=Lib.hid hKq;replace hE:=Lib.hid hE;replace hβ:=Lib.hid hβ
      go_simp
      exact hKq.out _ _ rfl (RX.ext hβ.out (by decide) (Ext.refl _))
     ·intro β a w hβ hE hd ho
      refine .inl ⟨rfl,?_⟩
      intro Kq hKq
      have hF : Ext w75b w:=Ext.trans ((Ext.refl _).drew) (hE.to_ext (Nat.le_refl _))
      have e4 : a.eval (.tmp 4) = .pointer (some ⟨BP,0,none⟩):=ho 4 (by kernel_rfl)
      rw [eval_tmp] at e4
      have cbP_0w:=Ext.cell hF cbP_0
      have cbP_1w:=Ext.cell hF cbP_1
      have cbP_2w:=Ext.cell hF cbP_2
      clear cbH_0 cbH_1 cbH_2 cbH_3 cbH_4 cbH_5 cbP_0 cbP_1 cbP_2
      clear hd ho
      replace hKq:=Lib.hid hKq;replace hE:=Lib.hid hE;replace hβ:=Lib.hid hβ
      go_simp
      exact hKq.out _ _ rfl (RX.ext hβ.out (by decide) (Ext.refl _))
     ·intro β a w hβ hE hd ho
      refine .inl ⟨rfl,?_⟩
      intro Kq hKq
      have hF : Ext w75b w:=Ext.trans ((Ext.refl _).drew) (hE.to_ext (Nat.le_refl _))
      clear cbH_0 cbH_1 cbH_2 cbH_3 cbH_4 cbH_5 cbP_0 cbP_1 cbP_2
      clear hd ho
      replace hKq:=Lib.hid hKq;replace hE:=Lib.hid hE;replace hβ:=Lib.hid hβ
      go_simp
      refine (law35_num 1 w).mono ?_
      rintro e wz ⟨rfl,hZ⟩
      dsimp only [Cell.val]
      go_simp
      exact hKq.out _ _ rfl (RX.ext hβ.out (by decide) hZ)
     ·intro β a w hβ hE hd ho
      refine .inl ⟨rfl,?_⟩
      intro Kq hKq
      have hF : Ext w75b w:=Ext.trans ((Ext.refl _).drew) (hE.to_ext (Nat.le_refl _))
      have e314 : a.eval (.tmp 314) = .agg #[.int .u8 1,.int .i64 1,.int .i64 0,.int .i64 0,.int .i64 0]:=(hd 2 (by kernel_rfl)).1
      rw [eval_tmp] at e314
      clear cbH_0 cbH_1 cbH_2 cbH_3 cbH_4 cbH_5 cbP_0 cbP_1 cbP_2
      clear hd ho
      replace hKq:=Lib.hid hKq;replace hE:=Lib.hid hE;replace hβ:=Lib.hid hβ
      go_simp
      exact hKq.out _ _ ⟨(some ⟨_,0,none⟩,1),rfl,FSb.new hE.out (by decide) hF.size (Cls.litF w #[.int .u8 1,.int .i64 1,.int .i64 0,.int .i64 0,.int .i64 0] [⟨1,1,0,0,0⟩] 1 rfl (by simp [maxLen]) rfl)⟩ (RX.ext hβ.out (by decide) ((Ext.refl _).alloc _))
     ·intro β a w hβ hE hd ho
      refine .inl ⟨rfl,?_⟩
      intro Kq hKq
      have hF : Ext w75b w:=Ext.trans ((Ext.refl _).drew) (hE.to_ext (Nat.le_refl _))
      have e312 : a.eval (.tmp 312) = .agg #[.slice v_ha xh.mem.al.length v_hac,.int .i64 xh.mem.next,.slice v_hk xh.stks.length v_hkc,.slice v_hr xh.run.length v_hrc,.int .i64 xh.tag,.int .i64 xh.call]:=(hd 0 (by kernel_rfl)).1
      rw [eval_tmp] at e312
      have e313 : a.eval (.tmp 313) = .agg #[.int .i64 0,.int .i64 0,.int .i64 1]:=(hd 1 (by kernel_rfl)).1
      rw [eval_tmp] at e313
      obtain ⟨⟨y1_315,y2_315⟩,e315,g315⟩ : ∃ a9 : Option Addr × Nat,a.eval (.tmp 315) = .slice a9.1 1 a9.2∧FSb w75b.drew.heap.size [9] (β,w) (fun w=>Cls w (.slice a9.1 1 a9.2) [⟨1,1,0,0,0⟩]):=(hd 3 (by kernel_rfl)).1
      dsimp only at e315 g315
      rw [eval_tmp] at e315
      replace g315:=Lib.hid g315
      clear cbH_0 cbH_1 cbH_2 cbH_3 cbH_4 cbH_5 cbP_0 cbP_1 cbP_2
      clear hd ho
      replace hKq:=Lib.hid hKq;replace hE:=Lib.hid hE;replace hβ:=Lib.hid hβ
      go_simp
      refine (monitor_Store (m:=xh) 0 0 1 (rr.out.1.ext hF) nxh.out (rr.out.2.1.ext hF) (rr.out.2.2.ext hF) g315.out.read).mono ?_
      rintro e wz ⟨vt,rfl,fM,hZ⟩
      rw [hres9.out] at fM ⊢
      obtain ⟨⟨z1,z2,z3,z4,z5,z6⟩,rfl,q9⟩:=FrMon.a3 fM
      clear fM
      dsimp only at q9 ⊢
      go_simp
      exact hKq.out _ _ ⟨⟨z1,z2,z3,z4,z5,z6⟩,rfl,FSb.new hE.out (by decide) hF.size q9⟩ (RX.ext hβ.out (by decide) hZ)
     ·intro β a w hβ hE hd ho
      refine .inl ⟨rfl,?_⟩
      intro Kq hKq
      have hF : Ext w75b w:=Ext.trans ((Ext.refl _).drew) (hE.to_ext (Nat.le_refl _))
      obtain ⟨⟨y1_316,y2_316,y3_316,y4_316,y5_316,y6_316⟩,e316,g316⟩ : ∃ a9 : A3,a.eval (.tmp 316) = .tuple #[.agg #[.slice a9.a1 xt.mem.al.length a9.c1,.int .i64 xt.mem.next,.slice a9.a2 xt.stks.length a9.c2,.slice a9.a3 xt.run.length a9.c3,.int .i64 xt.tag,.int .i64 xt.call],.int .u8 2,.int .i64 0]∧FSb w75b.drew.heap.size [9] (β,w) (RdA xt a9):=(hd 4 (by kernel_rfl)).1
      dsimp only at e316
      rw [eval_tmp] at e316
      replace g316:=Lib.hid g316
      clear cbH_0 cbH_1 cbH_2 cbH_3 cbH_4 cbH_5 cbP_0 cbP_1 cbP_2
      clear hd ho
      replace hKq:=Lib.hid hKq;replace hE:=Lib.hid hE;replace hβ:=Lib.hid hβ
      go_simp
      exact hKq.out _ _ ⟨_,rfl,FSb.mono g316.out (RX0.ext hβ.out (by decide) (Ext.refl _))⟩ (RX.ext hβ.out (by decide) (Ext.refl _))
     ·intro β a w hβ hE hd ho
      refine .inl ⟨rfl,?_⟩
      intro Kq hKq
      have hF : Ext w75b w:=Ext.trans ((Ext.refl _).drew) (hE.to_ext (Nat.le_refl _))
      obtain ⟨⟨y1_311,y2_311,y3_311,y4_311,y5_311,y6_311⟩,e311,g311⟩ : ∃ a9 : A3,a.eval (.tmp 311) = .tuple #[.agg #[.slice a9.a1 xt.mem.al.length a9.c1,.int .i64 xt.mem.next,.slice a9.a2 xt.stks.length a9.c2,.slice a9.a3 xt.run.length a9.c3,.int .i64 xt.tag,.int .i64 xt.call],.int .u8 2,.int .i64 0]∧FSb w75b.drew.heap.size [9] (β,w) (RdA xt a9):=(hd 5 (by kernel_rfl)).1
      dsimp only at e311
      rw [eval_tmp] at e311
      replace g311:=Lib.hid g311
      clear cbH_0 cbH_1 cbH_2 cbH_3 cbH_4 cbH_5 cbP_0 cbP_1 cbP_2
      clear hd ho
      replace hKq:=Lib.hid hKq;replace hE:=Lib.hid hE;replace hβ:=Lib.hid hβ
      go_simp
      exact hKq.out _ _ ⟨_,rfl,FSb.mono g311.out (RX0.ext hβ.out (by decide) (Ext.refl _))⟩ (RX.ext hβ.out (by decide) (Ext.refl _))
     ·intro β a w hβ hE hd ho
      refine .inl ⟨rfl,?_⟩
      intro Kq hKq
      have hF : Ext w75b w:=Ext.trans ((Ext.refl _).drew) (hE.to_ext (Nat.le_refl _))
      obtain ⟨⟨y1_311,y2_311,y3_311,y4_311,y5_311,y6_311⟩,e311,g311⟩ : ∃ a9 : A3,a.eval (.tmp 311) = .tuple #[.agg #[.slice a9.a1 xt.mem.al.length a9.c1,.int .i64 xt.mem.next,.slice a9.a2 xt.stks.length a9.c2,.slice a9.a3 xt.run.length a9.c3,.int .i64 xt.tag,.int .i64 xt.call],.int .u8 2,.int .i64 0]∧FSb w75b.drew.heap.size [9] (β,w) (RdA xt a9):=(hd 5 (by kernel_rfl)).1
      dsimp only at e311
      rw [eval_tmp] at e311
      replace g311:=Lib.hid g311
      clear cbH_0 cbH_1 cbH_2 cbH_3 cbH_4 cbH_5 cbP_0 cbP_1 cbP_2
      clear hd ho
      replace hKq:=Lib.hid hKq;replace hE:=Lib.hid hE;replace hβ:=Lib.hid hβ
      go_simp
      exact hKq.out _ _ rfl (RX.ext hβ.out (by decide) (Ext.refl _))
     ·intro β a w hβ hE hd ho
      refine .inl ⟨rfl,?_⟩
      intro Kq hKq
      have hF : Ext w75b w:=Ext.trans ((Ext.refl _).drew) (hE.to_ext (Nat.le_refl _))
      obtain ⟨⟨y1_311,y2_311,y3_311,y4_311,y5_311,y6_311⟩,e311,g311⟩ : ∃ a9 : A3,a.eval (.tmp 311) = .tuple #[.agg #[.slice a9.a1 xt.mem.al.length a9.c1,.int .i64 xt.mem.next,.slice a9.a2 xt.stks.length a9.c2,.slice a9.a3 xt.run.length a9.c3,.int .i64 xt.tag,.int .i64 xt.call],.int .u8 2,.int .i64 0]∧FSb w75b.drew.heap.size [9] (β,w) (RdA xt a9):=(hd 5 (by kernel_rfl)).1
      dsimp only at e311
      rw [eval_tmp] at e311
      replace g311:=Lib.hid g311
      clear cbH_0 cbH_1 cbH_2 cbH_3 cbH_4 cbH_5 cbP_0 cbP_1 cbP_2
      clear hd ho
      replace hKq:=Lib.hid hKq;replace hE:=Lib.hid hE;replace hβ:=Lib.hid hβ
      go_simp
      exact hKq.out _ _ rfl (RX.ext hβ.out (by decide) (Ext.refl _))
     ·intro β a w hβ hE hd ho
      refine .inl ⟨rfl,?_⟩
      intro Kq hKq
      have hF : Ext w75b w:=Ext.trans ((Ext.refl _).drew) (hE.to_ext (Nat.le_refl _))
      clear cbH_0 cbH_1 cbH_2 cbH_3 cbH_4 cbH_5 cbP_0 cbP_1 cbP_2
      clear hd ho
      replace hKq:=Lib.hid hKq;replace hE:=Lib.hid hE;replace hβ:=Lib.hid hβ
      go_simp
      exact hKq.out _ _ ⟨_,rfl,hF.size,#[.slice none 0 0,.int .i64 0,.slice none 0 0,.slice none 0 0,.int .i64 0,.int .i64 0],rfl,Box.new _ _ _⟩ (RX.made hβ.out ((Ext.refl _).alloc _) (fun x e=>by cases e;exact ⟨Nat.le_refl _,by simp⟩))
     ·intro β a w hβ hE hd ho
      refine .inl ⟨rfl,?_⟩
      intro Kq hKq
      have hF : Ext w75b w:=Ext.trans ((Ext.refl _).drew) (hE.to_ext (Nat.le_refl _))
      obtain ⟨bq,eq,hNb,vs0,hv0,hbx⟩ : ∃ b,a.eval (.tmp 63) = .pointer (some ⟨b,0,none⟩)∧w75b.drew.heap.size≤b∧BoxT 28 6 w b:=(hd 9 (by kernel_rfl)).1
      have eqb : β 9=some (.pointer (some ⟨bq,0,none⟩)):=(hd 9 (by kernel_rfl)).2.trans (congrArg some eq)
      have eq0:=eq
      rw [eval_tmp] at eq
      obtain ⟨u0,u1,u2,u3,u4,u5,rfl⟩ : ∃ u0 u1 u2 u3 u4 u5,vs0=#[u0,u1,u2,u3,u4,u5]:=by match vs0,hv0 with | ⟨[u0,u1,u2,u3,u4,u5]⟩,_=>exact ⟨u0,u1,u2,u3,u4,u5,rfl⟩
      have bc0 : World.cell? w ⟨bq,0,none⟩=some u0:=hbx.cell 0
      have bf0:=hbx.frozen 0
      have bc1 : World.cell? w ⟨bq,1,none⟩=some u1:=hbx.cell 1
      have bf1:=hbx.frozen 1
      have bc2 : World.cell? w ⟨bq,2,none⟩=some u2:=hbx.cell 2
      have bf2:=hbx.frozen 2
      have bc3 : World.cell? w ⟨bq,3,none⟩=some u3:=hbx.cell 3
      have bf3:=hbx.frozen 3
      have bc4 : World.cell? w ⟨bq,4,none⟩=some u4:=hbx.cell 4
      have bf4:=hbx.frozen 4
      have bc5 : World.cell? w ⟨bq,5,none⟩=some u5:=hbx.cell 5
      have bf5:=hbx.frozen 5
      have hbl:=hbx.lt
      replace hbx:=Lib.hid hbx;replace eq0:=Lib.hid eq0;replace eqb:=Lib.hid eqb
      obtain ⟨⟨y1_317,y2_317,y3_317,y4_317,y5_317,y6_317⟩,e317,g317⟩ : ∃ a9 : A3,a.eval (.tmp 317) = .agg #[.slice a9.a1 xt.mem.al.length a9.c1,.int .i64 xt.mem.next,.slice a9.a2 xt.stks.length a9.c2,.slice a9.a3 xt.run.length a9.c3,.int .i64 xt.tag,.int .i64 xt.call]∧FSb w75b.drew.heap.size [9] (β,w) (RdA xt a9):=(hd 6 (by kernel_rfl)).1
      dsimp only at e317
      rw [eval_tmp] at e317
      replace g317:=Lib.hid g317
      clear cbH_0 cbH_1 cbH_2 cbH_3 cbH_4 cbH_5 cbP_0 cbP_1 cbP_2
      clear hd ho
      replace hKq:=Lib.hid hKq;replace hE:=Lib.hid hE;replace hβ:=Lib.hid hβ
      go_simp
      have hBx : Box (World.setCell (World.setCell (World.setCell (World.setCell (World.setCell (World.setCell w ⟨bq,0,none⟩ (.slice y1_317 xt.mem.al.length y2_317)) ⟨bq,1,none⟩ (.int .i64 xt.mem.next)) ⟨bq,2,none⟩ (.slice y3_317 xt.stks.length y4_317)) ⟨bq,3,none⟩ (.slice y5_317 xt.run.length y6_317)) ⟨bq,4,none⟩ (.int .i64 xt.tag)) ⟨bq,5,none⟩ (.int .i64 xt.call)) bq 28 #[.slice y1_317 xt.mem.al.length y2_317,.int .i64 xt.mem.next,.slice y3_317 xt.stks.length y4_317,.slice y5_317 xt.run.length y6_317,.int .i64 xt.tag,.int .i64 xt.call]:=(Box.set (Box.set (Box.set (Box.set (Box.set (Box.set hbx.out 0 (.slice y1_317 xt.mem.al.length y2_317)) 1 (.int .i64 xt.mem.next)) 2 (.slice y3_317 xt.stks.length y4_317)) 3 (.slice y5_317 xt.run.length y6_317)) 4 (.int .i64 xt.tag)) 5 (.int .i64 xt.call))
      have hXR:=RX.store (X:=XM w75b.drew.heap.size [9] xt #[]) (i:=10) (v:=a.eval (.tmp 63)) hβ.out (by decide) (j:=9) (by decide) eqb.out hNb (ExtBut.trans (ExtBut.trans (ExtBut.trans (ExtBut.trans (ExtBut.trans (ExtBut.setCell w ⟨bq,0,none⟩ (.slice y1_317 xt.mem.al.length y2_317)) (ExtBut.setCell (World.setCell w ⟨bq,0,none⟩ (.slice y1_317 xt.mem.al.length y2_317)) ⟨bq,1,none⟩ (.int .i64 xt.mem.next))) (ExtBut.setCell (World.setCell (World.setCell w ⟨bq,0,none⟩ (.slice y1_317 xt.mem.al.length y2_317)) ⟨bq,1,none⟩ (.int .i64 xt.mem.next)) ⟨bq,2,none⟩ (.slice y3_317 xt.stks.length y4_317))) (ExtBut.setCell (World.setCell (World.setCell (World.setCell w ⟨bq,0,none⟩ (.slice y1_317 xt.mem.al.length y2_317)) ⟨bq,1,none⟩ (.int .i64 xt.mem.next)) ⟨bq,2,none⟩ (.slice y3_317 xt.stks.length y4_317)) ⟨bq,3,none⟩ (.slice y5_317 xt.run.length y6_317))) (ExtBut.setCell (World.setCell (World.setCell (World.setCell (World.setCell w ⟨bq,0,none⟩ (.slice y1_317 xt.mem.al.length y2_317)) ⟨bq,1,none⟩ (.int .i64 xt.mem.next)) ⟨bq,2,none⟩ (.slice y3_317 xt.stks.length y4_317)) ⟨bq,3,none⟩ (.slice y5_317 xt.run.length y6_317)) ⟨bq,4,none⟩ (.int .i64 xt.tag))) (ExtBut.setCell (World.setCell (World.setCell (World.setCell (World.setCell (World.setCell w ⟨bq,0,none⟩ (.slice y1_317 xt.mem.al.length y2_317)) ⟨bq,1,none⟩ (.int .i64 xt.mem.next)) ⟨bq,2,none⟩ (.slice y3_317 xt.stks.length y4_317)) ⟨bq,3,none⟩ (.slice y5_317 xt.run.length y6_317)) ⟨bq,4,none⟩ (.int .i64 xt.tag)) ⟨bq,5,none⟩ (.int .i64 xt.call))) hbx.out hBx rfl (fun hR0=>⟨fun _=>⟨⟨y1_317,y2_317,y3_317,y4_317,y5_317,y6_317⟩,rfl,FSb.mono g317.out hR0⟩,fun h=>by cases h⟩)
      exact hKq.out undef (World.setCell (World.setCell (World.setCell (World.setCell (World.setCell (World.setCell w ⟨bq,0,none⟩ (.slice y1_317 xt.mem.al.length y2_317)) ⟨bq,1,none⟩ (.int .i64 xt.mem.next)) ⟨bq,2,none⟩ (.slice y3_317 xt.stks.length y4_317)) ⟨bq,3,none⟩ (.slice y5_317 xt.run.length y6_317)) ⟨bq,4,none⟩ (.int .i64 xt.tag)) ⟨bq,5,none⟩ (.int .i64 xt.call)) ⟨bq,_,eq0.out,hNb,hBx,hXR.1⟩ hXR.2
     ·intro β a w hβ hE hd ho
      refine .inl ⟨rfl,?_⟩
      intro Kq hKq
      have hF : Ext w75b w:=Ext.trans ((Ext.refl _).drew) (hE.to_ext (Nat.le_refl _))
      have e318 : a.eval (.tmp 318) = .int .u8 2:=(hd 7 (by kernel_rfl)).1
      rw [eval_tmp] at e318
      clear cbH_0 cbH_1 cbH_2 cbH_3 cbH_4 cbH_5 cbP_0 cbP_1 cbP_2
      clear hd ho
      replace hKq:=Lib.hid hKq;replace hE:=Lib.hid hE;replace hβ:=Lib.hid hβ
      go_simp
      exact hKq.out _ _ rfl (RX.ext hβ.out (by decide) (Ext.refl _))
     ·intro β a w hβ hE hd ho
      refine .inl ⟨rfl,?_⟩
      intro Kq hKq
      have hF : Ext w75b w:=Ext.trans ((Ext.refl _).drew) (hE.to_ext (Nat.le_refl _))
      have e319 : a.eval (.tmp 319) = .int .i64 0:=(hd 8 (by kernel_rfl)).1
      rw [eval_tmp] at e319
      clear cbH_0 cbH_1 cbH_2 cbH_3 cbH_4 cbH_5 cbP_0 cbP_1 cbP_2
      clear hd ho
      replace hKq:=Lib.hid hKq;replace hE:=Lib.hid hE;replace hβ:=Lib.hid hβ
      go_simp
      exact hKq.out _ _ rfl (RX.ext hβ.out (by decide) (Ext.refl _))
    ·intro vals β Ac wq hAc hE hv hsv hbv
     have hF : Ext w75b wq:=Ext.trans ((Ext.refl _).drew) (hE.to_ext (Nat.le_refl _))
     obtain ⟨bZ_a,vs9,eb,-,bZ,hXX⟩:=hv 10 (by decide)
     obtain ⟨⟨v_ta,v_tac,v_tk,v_tkc,v_tr,v_trc⟩,rfl,hq9⟩:=hXX.1 rfl
     dsimp only at bZ
     have e1 : vals 9 = .pointer (some ⟨bZ_a,0,none⟩):=((hsv 9).trans (hsv 10).symm).trans eb
     have e2 : vals 11 = .int .u8 2:=hv 11 (by decide)
     have e3 : vals 12 = .int .i64 0:=hv 12 (by decide)
     have qt : Fq (fun b=>b≠w6.heap.size∧True) wq (fun w=>RdA xt ⟨v_ta,v_tac,v_tk,v_tkc,v_tr,v_trc⟩ w):=Fq.mono hq9 (fun b h1 hl=>⟨by have g9:=ltbF;have h9 : w75b.heap.size≤b:=h1.1;omega,trivial⟩)
     clear hv hsv hbv hE eb hXX hq9 cbH_0 cbH_1 cbH_2 cbH_3 cbH_4 cbH_5 cbP_0 cbP_1 cbP_2
     subst hAc
     simp only [putAll]
     go_simp
     try rw [e1,e2,e3]
     clear e1 e2 e3
     obtain ⟨w77q,hwq⟩ : ∃ z,wq=z:=⟨_,rfl⟩
     rw [hwq] at hF qt bZ ⊢
     clear hwq
     replace bM:=bM.ext hF
     replace bP:=bP.ext hF
     replace bF:=bF.ext hF
     replace bO:=bO.ext hF
     replace bH:=bH.ext hF
     replace Gg:=Lib.hid (Fq.ext Gg.out hF)
     replace Gf:=Lib.hid (Fq.ext Gf.out hF)
     replace Go:=Lib.hid (Fq.ext Go.out hF)
     replace Gh:=Lib.hid (Fq.ext Gh.out hF)
     have hF78:=Ext.trans hF76 hF
     have Gt:=Lib.hid qt;clear qt
     clear rr hres9
     clear Gt
     clear bZ
     obtain ⟨bH_0,bH_1,bH_2,bH_3,bH_4,bH_5,bH_l⟩:=bH.c6
     go_wp2_with fail
     clear bH_0 bH_1 bH_2 bH_3 bH_4 bH_5 bH_l
     have ltbF:=Lib.hid bF.lt
     refine (monitor_Leave (m:=xh) Gh.out.read.1 nxh.out Gh.out.read.2.1 Gh.out.read.2.2).mono ?_
     rintro e w79 ⟨vt,rfl,fM,hE79⟩
     replace bM:=bM.ext hE79
     replace bP:=bP.ext hE79
     replace bF:=bF.ext hE79
     replace bO:=bO.ext hE79
     replace bH:=bH.ext hE79
     replace Gg:=Lib.hid (Fq.ext Gg.out hE79)
     replace Gf:=Lib.hid (Fq.ext Gf.out hE79)
     replace Go:=Lib.hid (Fq.ext Go.out hE79)
     replace Gh:=Lib.hid (Fq.ext Gh.out hE79)
     have hF79:=Ext.trans hF78 hE79
     rw [hq.out] at fM ⊢
     try dsimp only [Ptr.val] at fM ⊢
     obtain ⟨qsa,qss,qsr,rfl,qq⟩:=FrMon.parts fM
     clear fM
     obtain ⟨v_qa,v_qac,rfl,-⟩:=(qq.read).1.form
     obtain ⟨v_qk,v_qkc,rfl,-⟩:=(qq.read).2.1.form
     obtain ⟨v_qr,v_qrc,rfl,-⟩:=(qq.read).2.2.form
     try dsimp only at qq ⊢
     have Gq:=Lib.hid (Fq.mono (S':=(fun b=>b≠w6.heap.size∧True)) qq (fun b h1 _=>by have gbF:=ltbF.out;exact ⟨by omega,trivial⟩))
     clear qq ltbF
     clear Gh
     clear bH
     go_wp2_with fail
     have ne_bF_bQ : Hid (w6.heap.size≠w79.heap.size):=Hid.mk (by have h9:=bF.lt;omega)
     have bQ:=Box.new w79 28 #[.slice v_qa xq.mem.al.length v_qac,.int .i64 xq.mem.next,.slice v_qk xq.stks.length v_qkc,.slice v_qr xq.run.length v_qrc,.int .i64 xq.tag,.int .i64 xq.call]
     have hza : (World.alloc w79 (.cells #[.slice v_qa xq.mem.al.length v_qac,.int .i64 xq.mem.next,.slice v_qk xq.stks.length v_qkc,.slice v_qr xq.run.length v_qrc,.int .i64 xq.tag,.int .i64 xq.call] 28)).heap.size=w79.heap.size+1:=by rw [World.size_alloc]
     have hx80 : Ext w79 (World.alloc w79 (.cells #[.slice v_qa xq.mem.al.length v_qac,.int .i64 xq.mem.next,.slice v_qk xq.stks.length v_qkc,.slice v_qr xq.run.length v_qrc,.int .i64 xq.tag,.int .i64 xq.call] 28)):=(Ext.refl _).alloc _
     obtain ⟨w80b,hw80⟩ : ∃ z,World.alloc w79 (.cells #[.slice v_qa xq.mem.al.length v_qac,.int .i64 xq.mem.next,.slice v_qk xq.stks.length v_qkc,.slice v_qr xq.run.length v_qrc,.int .i64 xq.tag,.int .i64 xq.call] 28)=z:=⟨_,rfl⟩
     rw [hw80] at bQ hx80 hza ⊢
     clear hw80
     have hzb0:=hza
     clear hza
     replace bM:=bM.ext hx80
     replace bP:=bP.ext hx80
     replace bF:=bF.ext hx80
     replace bO:=bO.ext hx80
     replace Gg:=Lib.hid (Fq.ext Gg.out hx80)
     replace Gf:=Lib.hid (Fq.ext Gf.out hx80)
     replace Go:=Lib.hid (Fq.ext Go.out hx80)
     replace Gq:=Lib.hid (Fq.ext Gq.out hx80)
     have hF81:=Ext.trans hF79 hx80
     clear hzb0
     have ltbF:=Lib.hid bF.lt
     refine (monitor_End (m:=xq) 0 Gq.out.read.1 nxq.out Gq.out.read.2.1 Gq.out.read.2.2).mono ?_
     rintro e w82 ⟨vt,rfl,fM,hE82⟩
     replace bM:=bM.ext hE82
     replace bP:=bP.ext hE82
     replace bF:=bF.ext hE82
     replace bO:=bO.ext hE82
     replace bQ:=bQ.ext hE82
     replace Gg:=Lib.hid (Fq.ext Gg.out hE82)
     replace Gf:=Lib.hid (Fq.ext Gf.out hE82)
     replace Go:=Lib.hid (Fq.ext Go.out hE82)
     replace Gq:=Lib.hid (Fq.ext Gq.out hE82)
     have hF82:=Ext.trans hF81 hE82
     rw [hz.out] at fM ⊢
     try dsimp only [Ptr.val] at fM ⊢
     obtain ⟨zsa,zss,zsr,rfl,qz⟩:=FrMon.parts fM
     clear fM
     obtain ⟨v_za,v_zac,rfl,-⟩:=(qz.read).1.form
     obtain ⟨v_zk,v_zkc,rfl,-⟩:=(qz.read).2.1.form
     obtain ⟨v_zr,v_zrc,rfl,-⟩:=(qz.read).2.2.form
     try dsimp only at qz ⊢
     have Gz:=Lib.hid (Fq.mono (S':=(fun b=>b≠w6.heap.size∧True)) qz (fun b h1 _=>by have gbF:=ltbF.out;exact ⟨by omega,trivial⟩))
     clear qz ltbF
     clear Gz
     obtain ⟨bQ_0,bQ_1,bQ_2,bQ_3,bQ_4,bQ_5,bQ_l⟩:=bQ.c6
     go_wp2_with fail
     clear bQ_0 bQ_1 bQ_2 bQ_3 bQ_4 bQ_5 bQ_l
     have ne_bF_bZ : Hid (w6.heap.size≠w82.heap.size):=Hid.mk (by have h9:=bF.lt;omega)
     have bZ:=Box.new w82 28 #[.slice v_za xz.mem.al.length v_zac,.int .i64 xz.mem.next,.slice v_zk xz.stks.length v_zkc,.slice v_zr xz.run.length v_zrc,.int .i64 xz.tag,.int .i64 xz.call]
     have hza : (World.alloc w82 (.cells #[.slice v_za xz.mem.al.length v_zac,.int .i64 xz.mem.next,.slice v_zk xz.stks.length v_zkc,.slice v_zr xz.run.length v_zrc,.int .i64 xz.tag,.int .i64 xz.call] 28)).heap.size=w82.heap.size+1:=by rw [World.size_alloc]
     have hx83 : Ext w82 (World.alloc w82 (.cells #[.slice v_za xz.mem.al.length v_zac,.int .i64 xz.mem.next,.slice v_zk xz.stks.length v_zkc,.slice v_zr xz.run.length v_zrc,.int .i64 xz.tag,.int .i64 xz.call] 28)):=(Ext.refl _).alloc _
     obtain ⟨w83b,hw83⟩ : ∃ z,World.alloc w82 (.cells #[.slice v_za xz.mem.al.length v_zac,.int .i64 xz.mem.next,.slice v_zk xz.stks.length v_zkc,.slice v_zr xz.run.length v_zrc,.int .i64 xz.tag,.int .i64 xz.call] 28)=z:=⟨_,rfl⟩
     rw [hw83] at bZ hx83 hza ⊢
     clear hw83
     have hzb0:=hza
     clear hza
     replace bM:=bM.ext hx83
     replace bP:=bP.ext hx83
     replace bF:=bF.ext hx83
     replace bO:=bO.ext hx83
     replace bQ:=bQ.ext hx83
     replace Gg:=Lib.hid (Fq.ext Gg.out hx83)
     replace Gf:=Lib.hid (Fq.ext Gf.out hx83)
     replace Go:=Lib.hid (Fq.ext Go.out hx83)
     replace Gq:=Lib.hid (Fq.ext Gq.out hx83)
     have hF84:=Ext.trans hF82 hx83
     clear hzb0
     have ltbF:=Lib.hid bF.lt
     refine (monitor_Leave (m:=xq) Gq.out.read.1 nxq.out Gq.out.read.2.1 Gq.out.read.2.2).mono ?_
     rintro e w85 ⟨vt,rfl,fM,hE85⟩
     replace bM:=bM.ext hE85
     replace bP:=bP.ext hE85
     replace bF:=bF.ext hE85
     replace bO:=bO.ext hE85
     replace bQ:=bQ.ext hE85
     replace bZ:=bZ.ext hE85
     replace Gg:=Lib.hid (Fq.ext Gg.out hE85)
     replace Gf:=Lib.hid (Fq.ext Gf.out hE85)
     replace Go:=Lib.hid (Fq.ext Go.out hE85)
     replace Gq:=Lib.hid (Fq.ext Gq.out hE85)
     have hF85:=Ext.trans hF84 hE85
     rw [hu.out] at fM ⊢
     try dsimp only [Ptr.val] at fM ⊢
     obtain ⟨usa,uss,usr,rfl,qu⟩:=FrMon.parts fM
     clear fM
     obtain ⟨v_ua,v_uac,rfl,-⟩:=(qu.read).1.form
     obtain ⟨v_uk,v_ukc,rfl,-⟩:=(qu.read).2.1.form
     obtain ⟨v_ur,v_urc,rfl,-⟩:=(qu.read).2.2.form
     try dsimp only at qu ⊢
     have Gu:=Lib.hid (Fq.mono (S':=(fun b=>b≠w6.heap.size∧True)) qu (fun b h1 _=>by have gbF:=ltbF.out;exact ⟨by omega,trivial⟩))
     clear qu ltbF
     clear bZ
     clear Gu
     clear Gq
     clear bQ
     obtain ⟨bM_0,bM_1,bM_2,bM_3,bM_4,bM_5,bM_l⟩:=bM.c6
     go_wp2_with fail
     clear bM_0 bM_1 bM_2 bM_3 bM_4 bM_5 bM_l
     have ne_bF_bZ : Hid (w6.heap.size≠w85.heap.size):=Hid.mk (by have h9:=bF.lt;omega)
     have bZ:=Box.new w85 28 #[.slice v_ua xu.mem.al.length v_uac,.int .i64 xu.mem.next,.slice v_uk xu.stks.length v_ukc,.slice v_ur xu.run.length v_urc,.int .i64 xu.tag,.int .i64 xu.call]
     have hza : (World.alloc w85 (.cells #[.slice v_ua xu.mem.al.length v_uac,.int .i64 xu.mem.next,.slice v_uk xu.stks.length v_ukc,.slice v_ur xu.run.length v_urc,.int .i64 xu.tag,.int .i64 xu.call] 28)).heap.size=w85.heap.size+1:=by rw [World.size_alloc]
     have hx86 : Ext w85 (World.alloc w85 (.cells #[.slice v_ua xu.mem.al.length v_uac,.int .i64 xu.mem.next,.slice v_uk xu.stks.length v_ukc,.slice v_ur xu.run.length v_urc,.int .i64 xu.tag,.int .i64 xu.call] 28)):=(Ext.refl _).alloc _
     obtain ⟨w86b,hw86⟩ : ∃ z,World.alloc w85 (.cells #[.slice v_ua xu.mem.al.length v_uac,.int .i64 xu.mem.next,.slice v_uk xu.stks.length v_ukc,.slice v_ur xu.run.length v_urc,.int .i64 xu.tag,.int .i64 xu.call] 28)=z:=⟨_,rfl⟩
     rw [hw86] at bZ hx86 hza ⊢
     clear hw86
     have hzb0:=hza
     clear hza
     replace bM:=bM.ext hx86
     replace bP:=bP.ext hx86
     replace bF:=bF.ext hx86
     replace bO:=bO.ext hx86
     replace Gg:=Lib.hid (Fq.ext Gg.out hx86)
     replace Gf:=Lib.hid (Fq.ext Gf.out hx86)
     replace Go:=Lib.hid (Fq.ext Go.out hx86)
     have hF87:=Ext.trans hF85 hx86
     clear hzb0
     have ltbF:=Lib.hid bF.lt
     refine ((ref35_TwinG Gg.out.read.1 Gg.out.read.2.1 Gg.out.read.2.2 given_small.1 given_small.2.1 given_small.2.2).mono fun _ _ h=>RetTw.mon h).mono ?_
     rintro e w88 ⟨vt,rfl,fM,hE88⟩
     replace bM:=bM.ext hE88
     replace bP:=bP.ext hE88
     replace bF:=bF.ext hE88
     replace bO:=bO.ext hE88
     replace bZ:=bZ.ext hE88
     replace Gg:=Lib.hid (Fq.ext Gg.out hE88)
     replace Gf:=Lib.hid (Fq.ext Gf.out hE88)
     replace Go:=Lib.hid (Fq.ext Go.out hE88)
     have hF88:=Ext.trans hF87 hE88
     obtain ⟨nsa,nss,nsr,rfl,qn⟩:=FrMon.parts fM
     clear fM
     obtain ⟨v_na,v_nac,rfl,-⟩:=(qn.read).1.form
     obtain ⟨v_nk,v_nkc,rfl,-⟩:=(qn.read).2.1.form
     obtain ⟨v_nr,v_nrc,rfl,-⟩:=(qn.read).2.2.form
     try dsimp only at qn ⊢
     have Gn:=Lib.hid (Fq.mono (S':=(fun b=>b≠w6.heap.size∧True)) qn (fun b h1 _=>by have gbF:=ltbF.out;exact ⟨by omega,trivial⟩))
     clear qn ltbF
     clear bZ
     go_upto_region 57 with fail
     have ne_bN_bM : Hid (w88.heap.size≠w1.heap.size):=Hid.mk (by have h9:=bM.lt;omega)
     have ne_bN_bP : Hid (w88.heap.size≠BP):=Hid.mk (by have h9:=bP.lt;omega)
     have ne_bN_bF : Hid (w88.heap.size≠w6.heap.size):=Hid.mk (by have h9:=bF.lt;omega)
     have ne_bF_bN : Hid (w6.heap.size≠w88.heap.size):=Hid.mk (by have h9:=bF.lt;omega)
     have ne_bN_bO : Hid (w88.heap.size≠w66.heap.size):=Hid.mk (by have h9:=bO.lt;omega)
     have lowbN : Hid (wS.heap.size≤w88.heap.size):=Hid.mk (by have h9:=Ext.size hF88;omega)
     have bN:=Box.new w88 28 #[.slice v_na givenM.mem.al.length v_nac,.int .i64 givenM.mem.next,.slice v_nk givenM.stks.length v_nkc,.slice v_nr givenM.run.length v_nrc,.int .i64 givenM.tag,.int .i64 givenM.call]
     have hza : (World.alloc w88 (.cells #[.slice v_na givenM.mem.al.length v_nac,.int .i64 givenM.mem.next,.slice v_nk givenM.stks.length v_nkc,.slice v_nr givenM.run.length v_nrc,.int .i64 givenM.tag,.int .i64 givenM.call] 28)).heap.size=w88.heap.size+1:=by rw [World.size_alloc]
     have hx89 : Ext w88 (World.alloc w88 (.cells #[.slice v_na givenM.mem.al.length v_nac,.int .i64 givenM.mem.next,.slice v_nk givenM.stks.length v_nkc,.slice v_nr givenM.run.length v_nrc,.int .i64 givenM.tag,.int .i64 givenM.call] 28)):=(Ext.refl _).alloc _
     obtain ⟨w89b,hw89⟩ : ∃ z,World.alloc w88 (.cells #[.slice v_na givenM.mem.al.length v_nac,.int .i64 givenM.mem.next,.slice v_nk givenM.stks.length v_nkc,.slice v_nr givenM.run.length v_nrc,.int .i64 givenM.tag,.int .i64 givenM.call] 28)=z:=⟨_,rfl⟩
     rw [hw89] at bN hx89 hza ⊢
     clear hw89
     replace Gg:=Lib.hid (Fq.to (T:=fun _=>False) (S':=(fun b=>b≠w6.heap.size∧b≠w88.heap.size∧True)) Gg.out (ExtBut.of_ext hx89) (fun _ _ _ h=>h) (fun b h hl=>⟨h.1,by omega,trivial⟩))
     replace Gf:=Lib.hid (Fq.to (T:=fun _=>False) (S':=(fun b=>b≠w6.heap.size∧b≠w88.heap.size∧True)) Gf.out (ExtBut.of_ext hx89) (fun _ _ _ h=>h) (fun b h hl=>⟨h.1,by omega,trivial⟩))
     replace Go:=Lib.hid (Fq.to (T:=fun _=>False) (S':=(fun b=>b≠w6.heap.size∧b≠w88.heap.size∧True)) Go.out (ExtBut.of_ext hx89) (fun _ _ _ h=>h) (fun b h hl=>⟨h.1,by omega,trivial⟩))
     replace Gn:=Lib.hid (Fq.to (T:=fun _=>False) (S':=(fun b=>b≠w6.heap.size∧b≠w88.heap.size∧True)) Gn.out (ExtBut.of_ext hx89) (fun _ _ _ h=>h) (fun b h hl=>⟨h.1,by omega,trivial⟩))
     have hzb0:=hza
     clear hza
     replace bM:=bM.ext hx89
     replace bP:=bP.ext hx89
     replace bF:=bF.ext hx89
     replace bO:=bO.ext hx89
     have hF90:=Ext.trans hF88 hx89
     clear hzb0
     have bN_0 : World.cell? w89b ⟨w88.heap.size,0,none⟩=some (.slice v_na givenM.mem.al.length v_nac):=bN.cell 0
     have bN_1 : World.cell? w89b ⟨w88.heap.size,1,none⟩=some (.int .i64 givenM.mem.next):=bN.cell 1
     have bN_2 : World.cell? w89b ⟨w88.heap.size,2,none⟩=some (.slice v_nk givenM.stks.length v_nkc):=bN.cell 2
     have bN_3 : World.cell? w89b ⟨w88.heap.size,3,none⟩=some (.slice v_nr givenM.run.length v_nrc):=bN.cell 3
     have bN_4 : World.cell? w89b ⟨w88.heap.size,4,none⟩=some (.int .i64 givenM.tag):=bN.cell 4
     have bN_5 : World.cell? w89b ⟨w88.heap.size,5,none⟩=some (.int .i64 givenM.call):=bN.cell 5
     have bN_f0 : World.frozen? w89b ⟨w88.heap.size,0,none⟩=false:=bN.frozen 0
     have bN_f1 : World.frozen? w89b ⟨w88.heap.size,1,none⟩=false:=bN.frozen 1
     have bN_f2 : World.frozen? w89b ⟨w88.heap.size,2,none⟩=false:=bN.frozen 2
     have bN_f3 : World.frozen? w89b ⟨w88.heap.size,3,none⟩=false:=bN.frozen 3
     have bN_f4 : World.frozen? w89b ⟨w88.heap.size,4,none⟩=false:=bN.frozen 4
     have bN_f5 : World.frozen? w89b ⟨w88.heap.size,5,none⟩=false:=bN.frozen 5
     have bN_l:=bN.lt
     go_upto_region 58 with fail
     clear bN_0 bN_1 bN_2 bN_3 bN_4 bN_5 bN_f0 bN_f1 bN_f2 bN_f3 bN_f4 bN_f5 bN_l
     have hS91 : ExtBut (fun b=>b=w6.heap.size∨b=w88.heap.size∨False) w89b (World.setCell (World.setCell w89b ⟨w88.heap.size,3,none⟩ (.slice none 0 0)) ⟨w88.heap.size,5,none⟩ (.int .i64 50)):=by (repeat' with_reducible first | exact ExtBut.refl _ _ | refine ExtBut.dr ?_ | refine ExtBut.sc ?_ ?_ | fail) <;> dsimp only <;> omega
     replace bM:=(Box.other (Box.other bM (p:=⟨w88.heap.size,3,none⟩) (ne_bN_bM.out) (.slice none 0 0)) (p:=⟨w88.heap.size,5,none⟩) (ne_bN_bM.out) (.int .i64 50))
     replace bP:=(Box.other (Box.other bP (p:=⟨w88.heap.size,3,none⟩) (ne_bN_bP.out) (.slice none 0 0)) (p:=⟨w88.heap.size,5,none⟩) (ne_bN_bP.out) (.int .i64 50))
     replace bF:=(Box.other (Box.other bF (p:=⟨w88.heap.size,3,none⟩) (ne_bN_bF.out) (.slice none 0 0)) (p:=⟨w88.heap.size,5,none⟩) (ne_bN_bF.out) (.int .i64 50))
     replace bO:=(Box.other (Box.other bO (p:=⟨w88.heap.size,3,none⟩) (ne_bN_bO.out) (.slice none 0 0)) (p:=⟨w88.heap.size,5,none⟩) (ne_bN_bO.out) (.int .i64 50))
     replace bN:=(Box.setL (Box.setL bN 3 (.slice none 0 0)) 5 (.int .i64 50))
     simp only [List.set_cons_zero,List.set_cons_succ] at bN
     obtain ⟨w91s,hw91⟩ : ∃ z,(World.setCell (World.setCell w89b ⟨w88.heap.size,3,none⟩ (.slice none 0 0)) ⟨w88.heap.size,5,none⟩ (.int .i64 50))=z:=⟨_,rfl⟩
     rw [hw91] at hS91 bM bP bF bO bN ⊢
     clear hw91
     have hF91:=ExtBut.ext hF90 hS91 (fun b h=>by rcases h with h | h | h;(rw [h];exact lowbF.out);(rw [h];exact lowbN.out);exact h.elim)
     replace Gg:=Lib.hid (Fq.but Gg.out hS91 (fun b h _ h2=>by rcases h2 with h2 | h2 | h2;exact h.1 h2;exact h.2.1 h2;exact h2))
     replace Gf:=Lib.hid (Fq.but Gf.out hS91 (fun b h _ h2=>by rcases h2 with h2 | h2 | h2;exact h.1 h2;exact h.2.1 h2;exact h2))
     replace Go:=Lib.hid (Fq.but Go.out hS91 (fun b h _ h2=>by rcases h2 with h2 | h2 | h2;exact h.1 h2;exact h.2.1 h2;exact h2))
     replace Gn:=Lib.hid (Fq.but Gn.out hS91 (fun b h _ h2=>by rcases h2 with h2 | h2 | h2;exact h.1 h2;exact h.2.1 h2;exact h2))
     clear hS91
     clear bM
     clear Gg
     refine names35_loop ?_ ?_ hp.out hF91 lowbF.out lowbN.out ne_bF_bN.out ne_bN_bF.out ne_bF_bO.out ne_bN_bO.out ne_bF_bP.out ne_bN_bP.out bF bN bO bP Gf.out Go.out Gn.out nxo.out hr.out hw.out hr1.out hr2.out hr3.out
     assumption
     assumption
  clear_value *
  as_aux_lemma =>
   have hge : decide ((k : Int) < 13)=true:=decide_eq_true (by omega)
   go_wp2_with fail
   refine (law35_given _).mono ?_
   rintro e w1 ⟨vg,rfl,fM,hE1⟩
   have hF1:=Ext.trans hFr hE1
   obtain ⟨sa9,ss9,sr9,rfl,hA9,hK9r,hR9⟩:=fM.read
   clear fM
   clear hge
   go_wp2_with fail
   refine (ref35_Twin2 hA9 hK9r hR9 given_small.1 given_small.2.1 given_small.2.2).mono ?_
   rintro e w2 ⟨N9,sa,ss,sr,vsA,vs,rfl,hT,hI,hE2⟩
   have hF2:=Ext.trans hF1 hE2
   obtain ⟨gA,cA,gC,cC,gK,cK,gS,cS,g0,c0,g1,c1,gR,cR,rfl,rfl,rfl,hG,hcA,hcK,hcR,hcS,hmA,hmK,hmS⟩:=hT.given hI
   clear hT hI hA9 hK9r hR9
   unfold maxLen at hmA hmK hmS
   dsimp only [givenM]
   replace hG:=Lib.hid hG;replace hcA:=Lib.hid hcA;replace hcK:=Lib.hid hcK;replace hcR:=Lib.hid hcR;replace hcS:=Lib.hid hcS;replace hmA:=Lib.hid hmA;replace hmK:=Lib.hid hmK;replace hmS:=Lib.hid hmS
   go_upto_block 2 with fail
   have lowbT : Hid (wS.heap.size≤w2.heap.size):=Hid.mk (by have h9:=Ext.size hF2;omega)
   have bT:=Box.new w2 28 #[.slice (some ⟨gA,0,none⟩) 1 cA,.int .i64 2,.slice (some ⟨gK,0,none⟩) 1 cK,.slice (some ⟨gR,0,none⟩) 1 cR,.int .i64 2,.int .i64 2]
   have hza : (World.alloc w2 (.cells #[.slice (some ⟨gA,0,none⟩) 1 cA,.int .i64 2,.slice (some ⟨gK,0,none⟩) 1 cK,.slice (some ⟨gR,0,none⟩) 1 cR,.int .i64 2,.int .i64 2] 28)).heap.size=w2.heap.size+1:=by rw [World.size_alloc]
   have hx3 : Ext w2 (World.alloc w2 (.cells #[.slice (some ⟨gA,0,none⟩) 1 cA,.int .i64 2,.slice (some ⟨gK,0,none⟩) 1 cK,.slice (some ⟨gR,0,none⟩) 1 cR,.int .i64 2,.int .i64 2] 28)):=(Ext.refl _).alloc _
   obtain ⟨w3b,hw3⟩ : ∃ z,World.alloc w2 (.cells #[.slice (some ⟨gA,0,none⟩) 1 cA,.int .i64 2,.slice (some ⟨gK,0,none⟩) 1 cK,.slice (some ⟨gR,0,none⟩) 1 cR,.int .i64 2,.int .i64 2] 28)=z:=⟨_,rfl⟩
   rw [hw3] at bT hx3 hza ⊢
   clear hw3
   have hzb0:=hza
   clear hza
   have hF4:=Ext.trans hF2 hx3
   clear hzb0
   have hG2:=Lib.hid (hG.out.ext hx3)
   have hgT:=Lib.hid hG.out.lts
   have hBl:=Lib.hid (Ext.size hF1)
   clear hG
   obtain ⟨z,hz⟩ : ∃ z : Int,(k : Int)=z:=⟨_,rfl⟩
   rw [hz]
   have hz13 : 0≤z∧z < 13:=by omega
   go_cut [] from 91 to 185 (BadRes wS (w2.heap.size))
   case first=>as_aux_lemma =>
    rcases (by omega : z=0∨z=1∨z=2∨z=3∨z=4∨z=5∨z=6∨z=7∨z=8∨z=9∨z=10∨z=11∨z=12) with rfl | rfl | rfl | rfl | rfl | rfl | rfl | rfl | rfl | rfl | rfl | rfl | rfl
    all_goals clear hz13 hz hk hlt
    ·as_aux_lemma =>
     have bT_0 : World.cell? w3b ⟨w2.heap.size,0,none⟩=some (.slice (some ⟨gA,0,none⟩) 1 cA):=bT.cell 0
     have bT_1 : World.cell? w3b ⟨w2.heap.size,1,none⟩=some (.int .i64 2):=bT.cell 1
     have bT_2 : World.cell? w3b ⟨w2.heap.size,2,none⟩=some (.slice (some ⟨gK,0,none⟩) 1 cK):=bT.cell 2
     have bT_3 : World.cell? w3b ⟨w2.heap.size,3,none⟩=some (.slice (some ⟨gR,0,none⟩) 1 cR):=bT.cell 3
     have bT_4 : World.cell? w3b ⟨w2.heap.size,4,none⟩=some (.int .i64 2):=bT.cell 4
     have bT_5 : World.cell? w3b ⟨w2.heap.size,5,none⟩=some (.int .i64 2):=bT.cell 5
     have bT_f0 : World.frozen? w3b ⟨w2.heap.size,0,none⟩=false:=bT.frozen 0
     have bT_f1 : World.frozen? w3b ⟨w2.heap.size,1,none⟩=false:=bT.frozen 1
     have bT_f2 : World.frozen? w3b ⟨w2.heap.size,2,none⟩=false:=bT.frozen 2
     have bT_f3 : World.frozen? w3b ⟨w2.heap.size,3,none⟩=false:=bT.frozen 3
     have bT_f4 : World.frozen? w3b ⟨w2.heap.size,4,none⟩=false:=bT.frozen 4
     have bT_f5 : World.frozen? w3b ⟨w2.heap.size,5,none⟩=false:=bT.frozen 5
     have bT_l:=bT.lt
     go_wp2_with fail
     clear bT_0 bT_1 bT_2 bT_3 bT_4 bT_5 bT_f0 bT_f1 bT_f2 bT_f3 bT_f4 bT_f5 bT_l
     have hX : ExtBut (fun b=>b=w2.heap.size) w3b (World.setCell w3b ⟨w2.heap.size,1,none⟩ (.int .i64 0)):=ExtBut.setCell w3b ⟨w2.heap.size,1,none⟩ (.int .i64 0)
     have hG3:=(hG2.out.off hX hgT.out).rd rfl
     have hFx:=ExtBut.ext hF4 hX (fun b h=>by rw [h];exact lowbT.out)
     go_meet
     exact ⟨⟨⟨[⟨0,true,[⟨1,5,0,0,0⟩,Cell.zero]⟩],0⟩,[⟨0,[[⟨1,1,0⟩],[⟨1,1,0⟩]]⟩],[1],2,2⟩,⟨(some ⟨gA,0,none⟩),cA,(some ⟨gK,0,none⟩),cK,(some ⟨gR,0,none⟩),cR⟩,(Box.setL bT 1 (.int .i64 0)),hG3,by decide +kernel,by unfold i64B;decide,hFx⟩
    ·as_aux_lemma =>
     have bT_0 : World.cell? w3b ⟨w2.heap.size,0,none⟩=some (.slice (some ⟨gA,0,none⟩) 1 cA):=bT.cell 0
     have bT_1 : World.cell? w3b ⟨w2.heap.size,1,none⟩=some (.int .i64 2):=bT.cell 1
     have bT_2 : World.cell? w3b ⟨w2.heap.size,2,none⟩=some (.slice (some ⟨gK,0,none⟩) 1 cK):=bT.cell 2
     have bT_3 : World.cell? w3b ⟨w2.heap.size,3,none⟩=some (.slice (some ⟨gR,0,none⟩) 1 cR):=bT.cell 3
     have bT_4 : World.cell? w3b ⟨w2.heap.size,4,none⟩=some (.int .i64 2):=bT.cell 4
     have bT_5 : World.cell? w3b ⟨w2.heap.size,5,none⟩=some (.int .i64 2):=bT.cell 5
     have bT_f0 : World.frozen? w3b ⟨w2.heap.size,0,none⟩=false:=bT.frozen 0
     have bT_f1 : World.frozen? w3b ⟨w2.heap.size,1,none⟩=false:=bT.frozen 1
     have bT_f2 : World.frozen? w3b ⟨w2.heap.size,2,none⟩=false:=bT.frozen 2
     have bT_f3 : World.frozen? w3b ⟨w2.heap.size,3,none⟩=false:=bT.frozen 3
     have bT_f4 : World.frozen? w3b ⟨w2.heap.size,4,none⟩=false:=bT.frozen 4
     have bT_f5 : World.frozen? w3b ⟨w2.heap.size,5,none⟩=false:=bT.frozen 5
     have bT_l:=bT.lt
     go_wp2_with fail
     clear bT_0 bT_1 bT_2 bT_3 bT_4 bT_5 bT_f0 bT_f1 bT_f2 bT_f3 bT_f4 bT_f5 bT_l
     have hX : ExtBut (fun b=>b=w2.heap.size) w3b (World.setCell w3b ⟨w2.heap.size,2,none⟩ (.slice none 0 0)):=ExtBut.setCell w3b ⟨w2.heap.size,2,none⟩ (.slice none 0 0)
     have hG3:=(hG2.out.off hX hgT.out).rd rfl
     have hFx:=ExtBut.ext hF4 hX (fun b h=>by rw [h];exact lowbT.out)
     go_meet
     exact ⟨⟨⟨[⟨0,true,[⟨1,5,0,0,0⟩,Cell.zero]⟩],2⟩,[],[1],2,2⟩,⟨(some ⟨gA,0,none⟩),cA,none,0,(some ⟨gR,0,none⟩),cR⟩,(Box.setL bT 2 (.slice none 0 0)),⟨hG3.1,Kts.nil _,hG3.2.2⟩,by decide +kernel,by unfold i64B;decide,hFx⟩
    ·as_aux_lemma =>
     obtain ⟨bT_0,bT_1,bT_2,bT_3,bT_4,bT_5,bT_l⟩:=bT.c6
     have kK0 : World.cell? w3b ⟨gK,0,none⟩=some (.int .i64 0):=hG2.out.oK.cellAt 0 (by decide)
     have kK0f : World.frozen? w3b ⟨gK,0,none⟩=false:=hG2.out.oK.frozen 0
     have lt_gK : gK < w3b.heap.size:=(hG2.out.oK.lt rfl).2
     go_wp2_with fail
     clear bT_0 bT_1 bT_2 bT_3 bT_4 bT_5 bT_l kK0 kK0f lt_gK
     have hX : ExtBut (fun b=>b=gK) w3b (World.setCell w3b ⟨gK,0,none⟩ (.int .i64 1)):=ExtBut.setCell w3b ⟨gK,0,none⟩ (.int .i64 1)
     have hG3:=(hG2.out.setK 0 (.int .i64 1)).rd rfl
     have hFx:=ExtBut.ext hF4 hX (fun b h=>by rw [h];exact Nat.le_trans hBl.out (hG2.out.oK.lt rfl).1)
     go_meet
     exact ⟨⟨⟨[⟨0,true,[⟨1,5,0,0,0⟩,Cell.zero]⟩],2⟩,[⟨1,[[⟨1,1,0⟩],[⟨1,1,0⟩]]⟩],[1],2,2⟩,⟨(some ⟨gA,0,none⟩),cA,(some ⟨gK,0,none⟩),cK,(some ⟨gR,0,none⟩),cR⟩,(Box.other bT (p:=⟨gK,0,none⟩) (Nat.ne_of_lt hgT.out.k) (.int .i64 1)),hG3,by decide +kernel,by unfold i64B;decide,hFx⟩
    ·as_aux_lemma =>
     obtain ⟨bT_0,bT_1,bT_2,bT_3,bT_4,bT_5,bT_l⟩:=bT.c6
     have kK1 : World.cell? w3b ⟨gK,1,none⟩=some (.slice (some ⟨gS,0,none⟩) 2 cS):=hG2.out.oK.cellAt 1 (by decide)
     have kK1f : World.frozen? w3b ⟨gK,1,none⟩=false:=hG2.out.oK.frozen 1
     have lt_gK : gK < w3b.heap.size:=(hG2.out.oK.lt rfl).2
     have h2S : (1 : Int)≤(cS : Int):=by have:=hcS.out;omega
     go_wp2_with fail
     go_region
     rw [if_neg (by have:=hcS.out;omega)]
     clear bT_0 bT_1 bT_2 bT_3 bT_4 bT_5 bT_l kK1 kK1f lt_gK
     clear h2S
     have hX : ExtBut (fun b=>b=gK) w3b (World.drew (World.setCell w3b ⟨gK,1,none⟩ (.slice (some ⟨gS,1,none⟩) 1 (cS - 1)))):=(ExtBut.setCell w3b ⟨gK,1,none⟩ (.slice (some ⟨gS,1,none⟩) 1 (cS - 1))).dr
     have hG3:=(hG2.out.setK 1 (.slice (some ⟨gS,1,none⟩) 1 (cS - 1))).ext (Ext.refl _).drew
     have hFx:=ExtBut.ext hF4 hX (fun b h=>by rw [h];exact Nat.le_trans hBl.out (hG2.out.oK.lt rfl).1)
     have hBx:=Box.ext (Box.other bT (p:=⟨gK,1,none⟩) (Nat.ne_of_lt hgT.out.k) (.slice (some ⟨gS,1,none⟩) 1 (cS - 1))) (Ext.refl _).drew
     go_wp2_with fail
     go_meet
     exact ⟨⟨⟨[⟨0,true,[⟨1,5,0,0,0⟩,Cell.zero]⟩],2⟩,[⟨0,[[⟨1,1,0⟩]]⟩],[1],2,2⟩,⟨(some ⟨gA,0,none⟩),cA,(some ⟨gK,0,none⟩),cK,(some ⟨gR,0,none⟩),cR⟩,hBx,⟨⟨[_],⟨hG3.oC.sl,trivial⟩,hG3.oA.sl⟩,⟨[_],⟨⟨[_],⟨hG3.o1.sl,trivial⟩,hG3.tail hcS.out⟩,trivial⟩,hG3.oK.sl⟩,hG3.oR.sl⟩,by decide +kernel,by unfold i64B;decide,hFx⟩
    ·as_aux_lemma =>
     obtain ⟨bT_0,bT_1,bT_2,bT_3,bT_4,bT_5,bT_l⟩:=bT.c6
     have kK1 : World.cell? w3b ⟨gK,1,none⟩=some (.slice (some ⟨gS,0,none⟩) 2 cS):=hG2.out.oK.cellAt 1 (by decide)
     have kS1 : World.cell? w3b ⟨gS,1,none⟩=some (.slice (some ⟨g1,0,none⟩) 1 c1):=hG2.out.oS.cellAt 1 (by decide)
     have k10 : World.cell? w3b ⟨g1,0,none⟩=some (.int .u8 1):=hG2.out.o1.cellAt 0 (by decide)
     have k10f : World.frozen? w3b ⟨g1,0,none⟩=false:=hG2.out.o1.frozen 0
     have lt_gK : gK < w3b.heap.size:=(hG2.out.oK.lt rfl).2
     have lt_gS : gS < w3b.heap.size:=(hG2.out.oS.lt rfl).2
     have lt_g1 : g1 < w3b.heap.size:=(hG2.out.o1.lt rfl).2
     go_wp2_with fail
     clear bT_0 bT_1 bT_2 bT_3 bT_4 bT_5 bT_l kK1 kS1 k10 k10f lt_gK lt_gS lt_g1
     have hX : ExtBut (fun b=>b=g1) w3b (World.setCell w3b ⟨g1,0,none⟩ (.int .u8 0)):=ExtBut.setCell w3b ⟨g1,0,none⟩ (.int .u8 0)
     have hG3:=(hG2.out.set1 0 (.int .u8 0)).rd rfl
     have hFx:=ExtBut.ext hF4 hX (fun b h=>by rw [h];exact Nat.le_trans hBl.out (hG2.out.o1.lt rfl).1)
     go_meet
     exact ⟨⟨⟨[⟨0,true,[⟨1,5,0,0,0⟩,Cell.zero]⟩],2⟩,[⟨0,[[⟨1,1,0⟩],[⟨0,1,0⟩]]⟩],[1],2,2⟩,⟨(some ⟨gA,0,none⟩),cA,(some ⟨gK,0,none⟩),cK,(some ⟨gR,0,none⟩),cR⟩,(Box.other bT (p:=⟨g1,0,none⟩) (Nat.ne_of_lt hgT.out.i1) (.int .u8 0)),hG3,by decide +kernel,by unfold i64B;decide,hFx⟩
    ·as_aux_lemma =>
     have bT_0 : World.cell? w3b ⟨w2.heap.size,0,none⟩=some (.slice (some ⟨gA,0,none⟩) 1 cA):=bT.cell 0
     have bT_1 : World.cell? w3b ⟨w2.heap.size,1,none⟩=some (.int .i64 2):=bT.cell 1
     have bT_2 : World.cell? w3b ⟨w2.heap.size,2,none⟩=some (.slice (some ⟨gK,0,none⟩) 1 cK):=bT.cell 2
     have bT_3 : World.cell? w3b ⟨w2.heap.size,3,none⟩=some (.slice (some ⟨gR,0,none⟩) 1 cR):=bT.cell 3
     have bT_4 : World.cell? w3b ⟨w2.heap.size,4,none⟩=some (.int .i64 2):=bT.cell 4
     have bT_5 : World.cell? w3b ⟨w2.heap.size,5,none⟩=some (.int .i64 2):=bT.cell 5
     have bT_f0 : World.frozen? w3b ⟨w2.heap.size,0,none⟩=false:=bT.frozen 0
     have bT_f1 : World.frozen? w3b ⟨w2.heap.size,1,none⟩=false:=bT.frozen 1
     have bT_f2 : World.frozen? w3b ⟨w2.heap.size,2,none⟩=false:=bT.frozen 2
     have bT_f3 : World.frozen? w3b ⟨w2.heap.size,3,none⟩=false:=bT.frozen 3
     have bT_f4 : World.frozen? w3b ⟨w2.heap.size,4,none⟩=false:=bT.frozen 4
     have bT_f5 : World.frozen? w3b ⟨w2.heap.size,5,none⟩=false:=bT.frozen 5
     have bT_l:=bT.lt
     go_wp2_with fail
     clear bT_0 bT_1 bT_2 bT_3 bT_4 bT_5 bT_f0 bT_f1 bT_f2 bT_f3 bT_f4 bT_f5 bT_l
     have hX : ExtBut (fun b=>b=w2.heap.size) w3b (World.setCell w3b ⟨w2.heap.size,4,none⟩ (.int .i64 1)):=ExtBut.setCell w3b ⟨w2.heap.size,4,none⟩ (.int .i64 1)
     have hG3:=(hG2.out.off hX hgT.out).rd rfl
     have hFx:=ExtBut.ext hF4 hX (fun b h=>by rw [h];exact lowbT.out)
     go_meet
     exact ⟨⟨⟨[⟨0,true,[⟨1,5,0,0,0⟩,Cell.zero]⟩],2⟩,[⟨0,[[⟨1,1,0⟩],[⟨1,1,0⟩]]⟩],[1],1,2⟩,⟨(some ⟨gA,0,none⟩),cA,(some ⟨gK,0,none⟩),cK,(some ⟨gR,0,none⟩),cR⟩,(Box.setL bT 4 (.int .i64 1)),hG3,by decide +kernel,by unfold i64B;decide,hFx⟩
    ·as_aux_lemma =>
     have bT_0 : World.cell? w3b ⟨w2.heap.size,0,none⟩=some (.slice (some ⟨gA,0,none⟩) 1 cA):=bT.cell 0
     have bT_1 : World.cell? w3b ⟨w2.heap.size,1,none⟩=some (.int .i64 2):=bT.cell 1
     have bT_2 : World.cell? w3b ⟨w2.heap.size,2,none⟩=some (.slice (some ⟨gK,0,none⟩) 1 cK):=bT.cell 2
     have bT_3 : World.cell? w3b ⟨w2.heap.size,3,none⟩=some (.slice (some ⟨gR,0,none⟩) 1 cR):=bT.cell 3
     have bT_4 : World.cell? w3b ⟨w2.heap.size,4,none⟩=some (.int .i64 2):=bT.cell 4
     have bT_5 : World.cell? w3b ⟨w2.heap.size,5,none⟩=some (.int .i64 2):=bT.cell 5
     have bT_f0 : World.frozen? w3b ⟨w2.heap.size,0,none⟩=false:=bT.frozen 0
     have bT_f1 : World.frozen? w3b ⟨w2.heap.size,1,none⟩=false:=bT.frozen 1
     have bT_f2 : World.frozen? w3b ⟨w2.heap.size,2,none⟩=false:=bT.frozen 2
     have bT_f3 : World.frozen? w3b ⟨w2.heap.size,3,none⟩=false:=bT.frozen 3
     have bT_f4 : World.frozen? w3b ⟨w2.heap.size,4,none⟩=false:=bT.frozen 4
     have bT_f5 : World.frozen? w3b ⟨w2.heap.size,5,none⟩=false:=bT.frozen 5
     have bT_l:=bT.lt
     go_wp2_with fail
     clear bT_0 bT_1 bT_2 bT_3 bT_4 bT_5 bT_f0 bT_f1 bT_f2 bT_f3 bT_f4 bT_f5 bT_l
     have hX : ExtBut (fun b=>b=w2.heap.size) w3b (World.setCell w3b ⟨w2.heap.size,4,none⟩ (.int .i64 1000001)):=ExtBut.setCell w3b ⟨w2.heap.size,4,none⟩ (.int .i64 1000001)
     have hG3:=(hG2.out.off hX hgT.out).rd rfl
     have hFx:=ExtBut.ext hF4 hX (fun b h=>by rw [h];exact lowbT.out)
     go_meet
     exact ⟨⟨⟨[⟨0,true,[⟨1,5,0,0,0⟩,Cell.zero]⟩],2⟩,[⟨0,[[⟨1,1,0⟩],[⟨1,1,0⟩]]⟩],[1],1000001,2⟩,⟨(some ⟨gA,0,none⟩),cA,(some ⟨gK,0,none⟩),cK,(some ⟨gR,0,none⟩),cR⟩,(Box.setL bT 4 (.int .i64 1000001)),hG3,by decide +kernel,by unfold i64B;decide,hFx⟩
    ·as_aux_lemma =>
     have bT_0 : World.cell? w3b ⟨w2.heap.size,0,none⟩=some (.slice (some ⟨gA,0,none⟩) 1 cA):=bT.cell 0
     have bT_1 : World.cell? w3b ⟨w2.heap.size,1,none⟩=some (.int .i64 2):=bT.cell 1
     have bT_2 : World.cell? w3b ⟨w2.heap.size,2,none⟩=some (.slice (some ⟨gK,0,none⟩) 1 cK):=bT.cell 2
     have bT_3 : World.cell? w3b ⟨w2.heap.size,3,none⟩=some (.slice (some ⟨gR,0,none⟩) 1 cR):=bT.cell 3
     have bT_4 : World.cell? w3b ⟨w2.heap.size,4,none⟩=some (.int .i64 2):=bT.cell 4
     have bT_5 : World.cell? w3b ⟨w2.heap.size,5,none⟩=some (.int .i64 2):=bT.cell 5
     have bT_f0 : World.frozen? w3b ⟨w2.heap.size,0,none⟩=false:=bT.frozen 0
     have bT_f1 : World.frozen? w3b ⟨w2.heap.size,1,none⟩=false:=bT.frozen 1
     have bT_f2 : World.frozen? w3b ⟨w2.heap.size,2,none⟩=false:=bT.frozen 2
     have bT_f3 : World.frozen? w3b ⟨w2.heap.size,3,none⟩=false:=bT.frozen 3
     have bT_f4 : World.frozen? w3b ⟨w2.heap.size,4,none⟩=false:=bT.frozen 4
     have bT_f5 : World.frozen? w3b ⟨w2.heap.size,5,none⟩=false:=bT.frozen 5
     have bT_l:=bT.lt
     go_wp2_with fail
     clear bT_0 bT_1 bT_2 bT_3 bT_4 bT_5 bT_f0 bT_f1 bT_f2 bT_f3 bT_f4 bT_f5 bT_l
     have hX : ExtBut (fun b=>b=w2.heap.size) w3b (World.setCell w3b ⟨w2.heap.size,5,none⟩ (.int .i64 1)):=ExtBut.setCell w3b ⟨w2.heap.size,5,none⟩ (.int .i64 1)
     have hG3:=(hG2.out.off hX hgT.out).rd rfl
     have hFx:=ExtBut.ext hF4 hX (fun b h=>by rw [h];exact lowbT.out)
     go_meet
     exact ⟨⟨⟨[⟨0,true,[⟨1,5,0,0,0⟩,Cell.zero]⟩],2⟩,[⟨0,[[⟨1,1,0⟩],[⟨1,1,0⟩]]⟩],[1],2,1⟩,⟨(some ⟨gA,0,none⟩),cA,(some ⟨gK,0,none⟩),cK,(some ⟨gR,0,none⟩),cR⟩,(Box.setL bT 5 (.int .i64 1)),hG3,by decide +kernel,by unfold i64B;decide,hFx⟩
    ·as_aux_lemma =>
     have bT_0 : World.cell? w3b ⟨w2.heap.size,0,none⟩=some (.slice (some ⟨gA,0,none⟩) 1 cA):=bT.cell 0
     have bT_1 : World.cell? w3b ⟨w2.heap.size,1,none⟩=some (.int .i64 2):=bT.cell 1
     have bT_2 : World.cell? w3b ⟨w2.heap.size,2,none⟩=some (.slice (some ⟨gK,0,none⟩) 1 cK):=bT.cell 2
     have bT_3 : World.cell? w3b ⟨w2.heap.size,3,none⟩=some (.slice (some ⟨gR,0,none⟩) 1 cR):=bT.cell 3
     have bT_4 : World.cell? w3b ⟨w2.heap.size,4,none⟩=some (.int .i64 2):=bT.cell 4
     have bT_5 : World.cell? w3b ⟨w2.heap.size,5,none⟩=some (.int .i64 2):=bT.cell 5
     have bT_f0 : World.frozen? w3b ⟨w2.heap.size,0,none⟩=false:=bT.frozen 0
     have bT_f1 : World.frozen? w3b ⟨w2.heap.size,1,none⟩=false:=bT.frozen 1
     have bT_f2 : World.frozen? w3b ⟨w2.heap.size,2,none⟩=false:=bT.frozen 2
     have bT_f3 : World.frozen? w3b ⟨w2.heap.size,3,none⟩=false:=bT.frozen 3
     have bT_f4 : World.frozen? w3b ⟨w2.heap.size,4,none⟩=false:=bT.frozen 4
     have bT_f5 : World.frozen? w3b ⟨w2.heap.size,5,none⟩=false:=bT.frozen 5
     have bT_l:=bT.lt
     go_wp2_with fail
     clear bT_0 bT_1 bT_2 bT_3 bT_4 bT_5 bT_f0 bT_f1 bT_f2 bT_f3 bT_f4 bT_f5 bT_l
     have hX : ExtBut (fun b=>b=w2.heap.size) w3b (World.setCell w3b ⟨w2.heap.size,5,none⟩ (.int .i64 1000001)):=ExtBut.setCell w3b ⟨w2.heap.size,5,none⟩ (.int .i64 1000001)
     have hG3:=(hG2.out.off hX hgT.out).rd rfl
     have hFx:=ExtBut.ext hF4 hX (fun b h=>by rw [h];exact lowbT.out)
     go_meet
     exact ⟨⟨⟨[⟨0,true,[⟨1,5,0,0,0⟩,Cell.zero]⟩],2⟩,[⟨0,[[⟨1,1,0⟩],[⟨1,1,0⟩]]⟩],[1],2,1000001⟩,⟨(some ⟨gA,0,none⟩),cA,(some ⟨gK,0,none⟩),cK,(some ⟨gR,0,none⟩),cR⟩,(Box.setL bT 5 (.int .i64 1000001)),hG3,by decide +kernel,by unfold i64B;decide,hFx⟩
    ·as_aux_lemma =>
     have bT3:=bT.ext (show Ext w3b (World.alloc w3b (.cells #[.int .i64 1,.int .i64 1] 3)) from (Ext.refl _).alloc _)
     have c0 : World.cell? (World.alloc w3b (.cells #[.int .i64 1,.int .i64 1] 3)) ⟨w2.heap.size,0,none⟩=some (.slice (some ⟨gA,0,none⟩) 1 cA):=bT3.cell 0
     have cf0 : World.frozen? (World.alloc w3b (.cells #[.int .i64 1,.int .i64 1] 3)) ⟨w2.heap.size,0,none⟩=false:=bT3.frozen 0
     have c1 : World.cell? (World.alloc w3b (.cells #[.int .i64 1,.int .i64 1] 3)) ⟨w2.heap.size,1,none⟩=some (.int .i64 2):=bT3.cell 1
     have cf1 : World.frozen? (World.alloc w3b (.cells #[.int .i64 1,.int .i64 1] 3)) ⟨w2.heap.size,1,none⟩=false:=bT3.frozen 1
     have c2 : World.cell? (World.alloc w3b (.cells #[.int .i64 1,.int .i64 1] 3)) ⟨w2.heap.size,2,none⟩=some (.slice (some ⟨gK,0,none⟩) 1 cK):=bT3.cell 2
     have cf2 : World.frozen? (World.alloc w3b (.cells #[.int .i64 1,.int .i64 1] 3)) ⟨w2.heap.size,2,none⟩=false:=bT3.frozen 2
     have c3 : World.cell? (World.alloc w3b (.cells #[.int .i64 1,.int .i64 1] 3)) ⟨w2.heap.size,3,none⟩=some (.slice (some ⟨gR,0,none⟩) 1 cR):=bT3.cell 3
     have cf3 : World.frozen? (World.alloc w3b (.cells #[.int .i64 1,.int .i64 1] 3)) ⟨w2.heap.size,3,none⟩=false:=bT3.frozen 3
     have c4 : World.cell? (World.alloc w3b (.cells #[.int .i64 1,.int .i64 1] 3)) ⟨w2.heap.size,4,none⟩=some (.int .i64 2):=bT3.cell 4
     have cf4 : World.frozen? (World.alloc w3b (.cells #[.int .i64 1,.int .i64 1] 3)) ⟨w2.heap.size,4,none⟩=false:=bT3.frozen 4
     have c5 : World.cell? (World.alloc w3b (.cells #[.int .i64 1,.int .i64 1] 3)) ⟨w2.heap.size,5,none⟩=some (.int .i64 2):=bT3.cell 5
     have cf5 : World.frozen? (World.alloc w3b (.cells #[.int .i64 1,.int .i64 1] 3)) ⟨w2.heap.size,5,none⟩=false:=bT3.frozen 5
     have bT_0 : World.cell? w3b ⟨w2.heap.size,0,none⟩=some (.slice (some ⟨gA,0,none⟩) 1 cA):=bT.cell 0
     have bT_1 : World.cell? w3b ⟨w2.heap.size,1,none⟩=some (.int .i64 2):=bT.cell 1
     have bT_2 : World.cell? w3b ⟨w2.heap.size,2,none⟩=some (.slice (some ⟨gK,0,none⟩) 1 cK):=bT.cell 2
     have bT_3 : World.cell? w3b ⟨w2.heap.size,3,none⟩=some (.slice (some ⟨gR,0,none⟩) 1 cR):=bT.cell 3
     have bT_4 : World.cell? w3b ⟨w2.heap.size,4,none⟩=some (.int .i64 2):=bT.cell 4
     have bT_5 : World.cell? w3b ⟨w2.heap.size,5,none⟩=some (.int .i64 2):=bT.cell 5
     have bT_f0 : World.frozen? w3b ⟨w2.heap.size,0,none⟩=false:=bT.frozen 0
     have bT_f1 : World.frozen? w3b ⟨w2.heap.size,1,none⟩=false:=bT.frozen 1
     have bT_f2 : World.frozen? w3b ⟨w2.heap.size,2,none⟩=false:=bT.frozen 2
     have bT_f3 : World.frozen? w3b ⟨w2.heap.size,3,none⟩=false:=bT.frozen 3
     have bT_f4 : World.frozen? w3b ⟨w2.heap.size,4,none⟩=false:=bT.frozen 4
     have bT_f5 : World.frozen? w3b ⟨w2.heap.size,5,none⟩=false:=bT.frozen 5
     have bT_l:=bT.lt
     go_wp2_with fail
     clear bT_0 bT_1 bT_2 bT_3 bT_4 bT_5 bT_f0 bT_f1 bT_f2 bT_f3 bT_f4 bT_f5 bT_l
     clear bT3 c0 cf0 c1 cf1 c2 cf2 c3 cf3 c4 cf4 c5 cf5
     have hX : ExtBut (fun b=>b=w2.heap.size) w3b (World.alloc (World.setCell w3b ⟨w2.heap.size,3,none⟩ (.slice (some ⟨w3b.heap.size,0,none⟩) 2 2)) (.cells #[.int .i64 1,.int .i64 1] 3)):=(ExtBut.setCell w3b ⟨w2.heap.size,3,none⟩ (.slice (some ⟨w3b.heap.size,0,none⟩) 2 2)).alloc _
     have hG3:=(hG2.out.off hX hgT.out).rd rfl
     have hR9 : Nts (World.alloc (World.setCell w3b ⟨w2.heap.size,3,none⟩ (.slice (some ⟨w3b.heap.size,0,none⟩) 2 2)) (.cells #[.int .i64 1,.int .i64 1] 3)) (.slice (some ⟨w3b.heap.size,0,none⟩) 2 2) [1,1]:=by
      have h9:=(Own.lit' (B:=0) (e:=3) (k:=1) (World.setCell w3b ⟨w2.heap.size,3,none⟩ (.slice (some ⟨w3b.heap.size,0,none⟩) 2 2)) #[.int .i64 1,.int .i64 1] 2 (Nat.zero_le _) (by simp [maxLen]) rfl).sl
      rw [show ((World.setCell w3b ⟨w2.heap.size,3,none⟩ (.slice (some ⟨w3b.heap.size,0,none⟩) 2 2))).heap.size=w3b.heap.size from by simp] at h9
      exact h9
     have hFx:=ExtBut.ext hF4 hX (fun b h=>by rw [h];exact lowbT.out)
     go_meet
     exact ⟨⟨⟨[⟨0,true,[⟨1,5,0,0,0⟩,Cell.zero]⟩],2⟩,[⟨0,[[⟨1,1,0⟩],[⟨1,1,0⟩]]⟩],[1,1],2,2⟩,⟨(some ⟨gA,0,none⟩),cA,(some ⟨gK,0,none⟩),cK,(some ⟨w3b.heap.size,0,none⟩),2⟩,(Box.ext (Box.setL bT 3 (.slice (some ⟨w3b.heap.size,0,none⟩) 2 2)) ((Ext.refl _).alloc _)),⟨hG3.1,hG3.2.1,hR9⟩,by decide +kernel,by unfold i64B;decide,hFx⟩
    ·as_aux_lemma =>
     obtain ⟨bT_0,bT_1,bT_2,bT_3,bT_4,bT_5,bT_l⟩:=bT.c6
     have kK1 : World.cell? w3b ⟨gK,1,none⟩=some (.slice (some ⟨gS,0,none⟩) 2 cS):=hG2.out.oK.cellAt 1 (by decide)
     have kS0 : World.cell? w3b ⟨gS,0,none⟩=some (.slice (some ⟨g0,0,none⟩) 1 c0):=hG2.out.oS.cellAt 0 (by decide)
     have k02 : World.cell? w3b ⟨g0,2,none⟩=some (.int .i64 0):=hG2.out.o0.cellAt 2 (by decide)
     have k02f : World.frozen? w3b ⟨g0,2,none⟩=false:=hG2.out.o0.frozen 2
     have lt_gK : gK < w3b.heap.size:=(hG2.out.oK.lt rfl).2
     have lt_gS : gS < w3b.heap.size:=(hG2.out.oS.lt rfl).2
     have lt_g0 : g0 < w3b.heap.size:=(hG2.out.o0.lt rfl).2
     go_wp2_with fail
     clear bT_0 bT_1 bT_2 bT_3 bT_4 bT_5 bT_l kK1 kS0 k02 k02f lt_gK lt_gS lt_g0
     have hX : ExtBut (fun b=>b=g0) w3b (World.setCell w3b ⟨g0,2,none⟩ (.int .i64 2)):=ExtBut.setCell w3b ⟨g0,2,none⟩ (.int .i64 2)
     have hG3:=(hG2.out.set0 2 (.int .i64 2)).rd rfl
     have hFx:=ExtBut.ext hF4 hX (fun b h=>by rw [h];exact Nat.le_trans hBl.out (hG2.out.o0.lt rfl).1)
     go_meet
     exact ⟨⟨⟨[⟨0,true,[⟨1,5,0,0,0⟩,Cell.zero]⟩],2⟩,[⟨0,[[⟨1,1,2⟩],[⟨1,1,0⟩]]⟩],[1],2,2⟩,⟨(some ⟨gA,0,none⟩),cA,(some ⟨gK,0,none⟩),cK,(some ⟨gR,0,none⟩),cR⟩,(Box.other bT (p:=⟨g0,2,none⟩) (Nat.ne_of_lt hgT.out.i0) (.int .i64 2)),hG3,by decide +kernel,by unfold i64B;decide,hFx⟩
    ·as_aux_lemma =>
     obtain ⟨bT_0,bT_1,bT_2,bT_3,bT_4,bT_5,bT_l⟩:=bT.c6
     have kA1 : World.cell? w3b ⟨gA,1,none⟩=some (.bool true):=hG2.out.oA.cellAt 1 (by decide)
     have kA1f : World.frozen? w3b ⟨gA,1,none⟩=false:=hG2.out.oA.frozen 1
     have kA2 : World.cell? w3b ⟨gA,2,none⟩=some (.slice (some ⟨gC,0,none⟩) 2 cC):=hG2.out.oA.cellAt 2 (by decide)
     have kA2f : World.frozen? w3b ⟨gA,2,none⟩=false:=hG2.out.oA.frozen 2
     have lt_gA : gA < w3b.heap.size:=(hG2.out.oA.lt rfl).2
     have hmk : ∀ W : World,(Instr.makeSlice 38 (.int .i64 2) (.int .i64 2)).run Tryz.prog W = .ok (.slice (some ⟨W.heap.size,0,none⟩) 2 2) (W.alloc (.cells #[.int .u8 0,.int .i64 0,.int .i64 0,.int .i64 0,.int .i64 0,.int .u8 0,.int .i64 0,.int .i64 0,.int .i64 0,.int .i64 0] 54)):=fun W=>make_Cells 2 (by decide) W
     go_wp2_with fail
     go_region
     clear bT_0 bT_1 bT_2 bT_3 bT_4 bT_5 bT_l kA1 kA1f kA2 kA2f lt_gA
     clear hmk
     have hX : ExtBut (fun b=>b=gA) w3b (World.drew (World.alloc (World.setCell (World.setCell w3b ⟨gA,1,none⟩ (.bool false)) ⟨gA,2,none⟩ (.slice (some ⟨w3b.heap.size,0,none⟩) 2 2)) (.cells #[.int .u8 0,.int .i64 0,.int .i64 0,.int .i64 0,.int .i64 0,.int .u8 0,.int .i64 0,.int .i64 0,.int .i64 0,.int .i64 0] 54))):=(((ExtBut.setCell w3b ⟨gA,1,none⟩ (.bool false)).trans (ExtBut.setCell (World.setCell w3b ⟨gA,1,none⟩ (.bool false)) ⟨gA,2,none⟩ (.slice (some ⟨w3b.heap.size,0,none⟩) 2 2))).alloc _).dr
     have hXa : Ext (World.setCell (World.setCell w3b ⟨gA,1,none⟩ (.bool false)) ⟨gA,2,none⟩ (.slice (some ⟨w3b.heap.size,0,none⟩) 2 2)) (World.drew (World.alloc (World.setCell (World.setCell w3b ⟨gA,1,none⟩ (.bool false)) ⟨gA,2,none⟩ (.slice (some ⟨w3b.heap.size,0,none⟩) 2 2)) (.cells #[.int .u8 0,.int .i64 0,.int .i64 0,.int .i64 0,.int .i64 0,.int .u8 0,.int .i64 0,.int .i64 0,.int .i64 0,.int .i64 0] 54))):=((Ext.refl _).alloc _).drew
     have hG3:=((hG2.out.setA 1 (.bool false)).setA 2 (.slice (some ⟨w3b.heap.size,0,none⟩) 2 2)).ext hXa
     have hC9 : Cls (World.drew (World.alloc (World.setCell (World.setCell w3b ⟨gA,1,none⟩ (.bool false)) ⟨gA,2,none⟩ (.slice (some ⟨w3b.heap.size,0,none⟩) 2 2)) (.cells #[.int .u8 0,.int .i64 0,.int .i64 0,.int .i64 0,.int .i64 0,.int .u8 0,.int .i64 0,.int .i64 0,.int .i64 0,.int .i64 0] 54))) (.slice (some ⟨w3b.heap.size,0,none⟩) 2 2) [Cell.zero,Cell.zero]:=by
      have h9:=(Own.lit' (B:=0) (e:=54) (k:=5) (World.setCell (World.setCell w3b ⟨gA,1,none⟩ (.bool false)) ⟨gA,2,none⟩ (.slice (some ⟨w3b.heap.size,0,none⟩) 2 2)) #[.int .u8 0,.int .i64 0,.int .i64 0,.int .i64 0,.int .i64 0,.int .u8 0,.int .i64 0,.int .i64 0,.int .i64 0,.int .i64 0] 2 (Nat.zero_le _) (by simp [maxLen]) rfl).sl
      rw [show ((World.setCell (World.setCell w3b ⟨gA,1,none⟩ (.bool false)) ⟨gA,2,none⟩ (.slice (some ⟨w3b.heap.size,0,none⟩) 2 2))).heap.size=w3b.heap.size from by simp] at h9
      exact Sl.ext h9 (Ext.refl _).drew
     have hFx:=ExtBut.ext hF4 hX (fun b h=>by rw [h];exact Nat.le_trans hBl.out (hG2.out.oA.lt rfl).1)
     have hBx:=Box.ext (Box.other (Box.other bT (p:=⟨gA,1,none⟩) (Nat.ne_of_lt hgT.out.a) (.bool false)) (p:=⟨gA,2,none⟩) (Nat.ne_of_lt hgT.out.a) (.slice (some ⟨w3b.heap.size,0,none⟩) 2 2)) hXa
     go_wp2_with fail
     go_meet
     exact ⟨⟨⟨[⟨0,false,[Cell.zero,Cell.zero]⟩],2⟩,[⟨0,[[⟨1,1,0⟩],[⟨1,1,0⟩]]⟩],[1],2,2⟩,⟨(some ⟨gA,0,none⟩),cA,(some ⟨gK,0,none⟩),cK,(some ⟨gR,0,none⟩),cR⟩,hBx,⟨⟨[_],⟨hC9,trivial⟩,hG3.oA.sl⟩,⟨[_],⟨⟨[_,_],⟨hG3.o0.sl,hG3.o1.sl,trivial⟩,hG3.oS.sl⟩,trivial⟩,hG3.oK.sl⟩,hG3.oR.sl⟩,by decide +kernel,by unfold i64B;decide,hFx⟩
    ·as_aux_lemma =>
     obtain ⟨ki,kz,hki,hkz,hki3,hkz3,hkby⟩:=Stacks.infoE
     replace hki:=Lib.hid hki;replace hkz:=Lib.hid hkz;replace hki3:=Lib.hid hki3;replace hkz3:=Lib.hid hkz3;replace hkby:=Lib.hid hkby
     obtain ⟨bT_0,bT_1,bT_2,bT_3,bT_4,bT_5,bT_l⟩:=bT.c6
     obtain ⟨bT_0,bT_1,bT_2,bT_3,bT_4,bT_5,bT_l⟩:=bT.c6
     have kK0 : World.cell? w3b ⟨gK,0,none⟩=some (.int .i64 0):=hG2.out.oK.cellAt 0 (by decide)
     have kK1 : World.cell? w3b ⟨gK,1,none⟩=some (.slice (some ⟨gS,0,none⟩) 2 cS):=hG2.out.oK.cellAt 1 (by decide)
     have lt_gK : gK < w3b.heap.size:=(hG2.out.oK.lt rfl).2
     have bTf:=bT.frozen 2
     go_wp2_with fail
     refine wp_onlyN fun Q9 hQ9 => ?_
     go_region_law (first | (rw [if_pos (by rfl)];refine wp_append_any (.tmp 99) (.tmp 104) 25 25 rfl rfl rfl (B:=w1.heap.size) (e:=33) (n:=1) (m:=1) (xs:=[.int .i64 0,.slice (some ⟨gS,0,none⟩) 2 cS]) (ys:=[.int .i64 0,.slice (some ⟨gS,0,none⟩) 2 cS]) Tryz.underlying25 Tryz.underlying25 hki.out hkz.out hki3.out hkz3.out ?_ ?_ ?_ ?_ ?_ ?_ ?_;(first | exact hG2.out.oK.ext ((Ext.refl _).alloc _) | exact hG2.out.oK.ext ((Ext.refl _).alloc _).drew | exact hG2.out.oK.ext ((Ext.refl _).drew.alloc _));(first | exact (Own.lit' (B:=0) (e:=33) (k:=2) w3b #[.int .i64 0,.slice (some ⟨gS,0,none⟩) 2 cS] 1 (Nat.zero_le _) (by simp [maxLen]) rfl).sl | exact (Own.lit' (B:=0) (e:=33) (k:=2) w3b #[.int .i64 0,.slice (some ⟨gS,0,none⟩) 2 cS] 1 (Nat.zero_le _) (by simp [maxLen]) rfl).sl.ext (Ext.refl _).drew | exact (Own.lit' (B:=0) (e:=33) (k:=2) (World.drew w3b) #[.int .i64 0,.slice (some ⟨gS,0,none⟩) 2 cS] 1 (Nat.zero_le _) (by simp [maxLen]) rfl).sl | exact (Own.lit' (B:=0) (e:=33) (k:=2) (World.drew w3b) #[.int .i64 0,.slice (some ⟨gS,0,none⟩) 2 cS] 1 (Nat.zero_le _) (by simp [maxLen]) rfl).sl.ext (Ext.refl _).drew);(simp [Value.oneCell']);(simp [maxLen]);(rw [hkby.out];omega);(have:=(hG2.out.oK.lt rfl);simp;omega);intro v' w6 hOv hKv hbv _;(obtain ⟨av',cv',rfl,-⟩:=hOv.sl.slice_form);(have hXa : ExtBut (fun b=>b=gK) w3b w6:=((ExtBut.of_ext (show Ext w3b _ by first | exact (Ext.refl _).alloc _ | exact ((Ext.refl _).alloc _).drew | exact (Ext.refl _).drew.alloc _)).trans ((ExtBut.of_keeps hKv).mono (fun b _ h=>by have h3 : some gK=some b:=h;cases h3;rfl))));(have bT6:=bT.but hXa (fun h=>Nat.ne_of_lt hgT.out.k h.symm));(have o6:=bT6.cell 2);(have of6:=bT6.frozen 2);(have hC:=Lib.hid (And.intro hOv (And.intro hXa bT6)));clear hOv hKv hbv bT6 hXa) | fail)
     all_goals
      clear bTf o6 of6
      clear bT_0 bT_1 bT_2 bT_3 bT_4 bT_5 bT_l kK0 kK1 lt_gK
      refine hQ9 _ _ ?_
      obtain ⟨hO9,hX9,bT9⟩:=hC.out
      clear hC hQ9
      have hX : ExtBut (fun b=>b=gK∨b=w2.heap.size) w3b (World.setCell w6 ⟨w2.heap.size,2,none⟩ (.slice av' 2 cv')):=(hX9.mono (fun _ _ h => .inl h)).trans ((ExtBut.setCell w6 ⟨w2.heap.size,2,none⟩ (.slice av' 2 cv')).mono (fun _ _ h => .inr h))
      have hr:=Gv.rest hG2.out hX (fun b h1 h2=>by rcases h2 with h2 | h2;exact absurd h2 h1;exact Nat.le_of_eq h2.symm) hgT.out
      have hFx:=ExtBut.ext hF4 hX (fun b h=>by rcases h with h | h;(rw [h];exact Nat.le_trans hBl.out (hG2.out.oK.lt rfl).1);(rw [h];exact lowbT.out))
      have hOz:=ExtBut.own hO9 (ExtBut.setCell w6 ⟨w2.heap.size,2,none⟩ (.slice av' 2 cv')) (fun g e h=>by
       have h1:=Own.ty hO9 e
       have h2 : tyB w6 (w2.heap.size)=some 28:=by simp only [tyB,show w6.heap[w2.heap.size]? = _ from bT9]
       rw [show g=w2.heap.size from h,h2] at h1
       simp at h1)
      have hKz : Kts (World.setCell w6 ⟨w2.heap.size,2,none⟩ (.slice av' 2 cv')) (.slice av' 2 cv') [⟨0,[[⟨1,1,0⟩],[⟨1,1,0⟩]]⟩,⟨0,[[⟨1,1,0⟩],[⟨1,1,0⟩]]⟩]:=⟨[_,_],⟨hr.2.1,hr.2.1,trivial⟩,hOz.sl⟩
      go_wp2_with fail
      go_meet
      exact ⟨⟨⟨[⟨0,true,[⟨1,5,0,0,0⟩,Cell.zero]⟩],2⟩,[⟨0,[[⟨1,1,0⟩],[⟨1,1,0⟩]]⟩,⟨0,[[⟨1,1,0⟩],[⟨1,1,0⟩]]⟩],[1],2,2⟩,⟨(some ⟨gA,0,none⟩),cA,av',cv',(some ⟨gR,0,none⟩),cR⟩,Box.setL bT9 2 (.slice av' 2 cv'),⟨hr.1,hKz,hr.2.2⟩,by decide +kernel,by unfold i64B;decide,hFx⟩
   case rest=>as_aux_lemma =>
    clear hG2 hgT hBl bT hz13 lowbT
    obtain ⟨m,⟨a1,c1,a2,c2,a3,c3⟩,bT,hrd,hbad,hnx,hE⟩:=hcut
    dsimp only at bT
    obtain ⟨wx,hwx⟩ : ∃ z,wc=z:=⟨_,rfl⟩
    rw [hwx] at bT hrd hE ⊢
    clear hwx
    have hF:=hE
    replace hrd:=Lib.hid hrd;replace hbad:=Lib.hid hbad;replace hnx:=Lib.hid hnx
    obtain ⟨bT_0,bT_1,bT_2,bT_3,bT_4,bT_5,bT_l⟩:=bT.c6
    go_wp2_with fail
    clear bT_0 bT_1 bT_2 bT_3 bT_4 bT_5 bT_l
    refine (law35_bad (hp.out.ext hF) (rd_parts hrd.out) hnx.out hbad.out).mono ?_
    rintro e w5 ⟨rfl,hE5⟩
    replace bT:=bT.ext hE5
    have hF5:=Ext.trans hF hE5
    clear bT hrd hbad hnx
    subst hz
    go_wp2
    go_roundw
    case rel=>exact ⟨k+1,by omega,by go_num,hF5⟩
    case measure=>simp [intOf];omega
set_option maxRecDepth 100000 in
theorem monitorNames_contract (H : Type) (enc : TypeId × Value→H) (W : World) (base : Nat) (args : Array Value) (ds gs : List (DataW H)) (before : List MemPlace)
  (hval0 : ∀ (j : Nat) t v,Tryz.f3.params[j]? = some t→args[j]? = some v→Value.okWide Tryz.prog W .any base t v)
  (hW : DataW.Whole enc Tryz.prog Tryz.f3.params.toList Rows.monitorNamesSpec.vars false W args.toList ds gs before) (hL : laidMetH Tryz.prog Rows.monitorNamesRow.laid W) :
  Calls Tryz.prog 3 args W fun e W' => ∃ v,e = .returned v∧Rows.monitorNamesSpec.post enc Tryz.prog Tryz.f3 false true false false W args v W':=by
 have hval : ∀ (j : Nat) t v,Tryz.f3.params[j]? = some t→args[j]? = some v→Value.okWide Tryz.prog W .any base t v:=hval0
 have hW':=hW
 obtain ⟨p,q,hA0,hV,rfl,hfz,hnd⟩:=hW
 have hA : DataW.TrodAll enc Tryz.prog W 0 (fun _=>true) true Tryz.f3.params.toList args.toList ds p:=hA0
 rw [Tryz.params3] at hA hval
 obtain ⟨hargs,rfl,rfl⟩:=trodAll_nil hA
 obtain rfl : args=#[]:=by cases args;simp_all
 refine (monitorNames_walk (perms_of_laid hL) ).mono fun e W' ⟨he,hb⟩ => ?_
 subst he
 exact ⟨_,rfl,post_law TryzlaidOut (tb:=4) rfl Tryz.underlying4 (by kernel_rfl) rfl (fun ds hd=>match ds,hd with | [],_=>rfl) hW' hb⟩
theorem monitorNames_met (os : Os) : laidMet Tryz.prog Rows.monitorNamesRow.laid ((doorWorld os).forCall (fun _ _=>0) ⟨#[],#[],[]⟩).memory :=
 laidMet_of_run' 8 (by kernel_rfl) (by kernel_rfl)
theorem monitorNames_reads (os : Os) {H : Type} (enc : TypeId × Value→H) : ∃ places,DataW.whole enc Tryz.prog ((doorWorld os).forCall (fun _ _=>0) ⟨#[],#[],[]⟩).memory Tryz.f3.params.toList Rows.monitorNamesSpec.vars false (#[] : Array Value).toList 8=some ([],[],places) :=
 ⟨[],by kernel_rfl⟩
set_option maxRecDepth 100000 in
theorem monitorNames_lifted (os : Os) (started : os.Started) (H : Type) (enc : TypeId × Value→H) (F : Stop.Interp) :
  ReturnsInHanded {} Tryz.checked os 3 .any ((OpenSpec.ofChange Rows.monitorNamesSpec).preRow enc Tryz.prog Tryz.f3 Rows.monitorNamesRow.domain false Rows.monitorNamesRow.laid) (((OpenSpec.ofChange Rows.monitorNamesSpec).at F).post enc Tryz.prog Tryz.f3 false true false false):=by
 obtain ⟨places,hx⟩:=monitorNames_reads os enc
 refine returnsInHanded_of_row (C:=Tryz.checked) (s:=OpenSpec.ofChange Rows.monitorNamesSpec) Tryzown started (by kernel_rfl) Tryz.func3
  (witness_row_at (enc:=enc) (C:=Tryz.checked) false (doorWorld os) #[] rfl (by kernel_rfl) (by kernel_rfl) (by kernel_rfl)
   (OpenSpec.preRow_of_cond 8 hx (by kernel_rfl) (fun k hk=>by cases hk) (by kernel_rfl) (monitorNames_met os))) ?_
 intro W base args ds gs before hval hW _ _ _ hL _ _
 exact monitorNames_contract H enc W base args ds gs before hval hW hL
theorem monitorNames_said : Rows.MonitorNamesSaid :=
 OpenClaim.holds_of_cond 3 Tryz.f3 rfl rfl rfl rfl rfl rfl rfl ⟨rfl,rfl,rfl,rfl,rfl⟩ rfl rfl rfl rfl rfl (by kernel_rfl) Tryz.func3 (by kernel_rfl)
  (of_decide_eq_true (by kernel_rfl)) (by unfold Func.isWrapper;first | (rw [if_pos (by decide +kernel)];kernel_rfl) | (rw [if_neg (by decide +kernel)];exact ⟨rfl,rfl⟩))
  (fun os started H enc _ F=>by rw [OpenClaim.pre_eq_preRow];exact monitorNames_lifted os started H enc F)
theorem monitorNames_plain (f : FuncId) (fn : Func) (hf : Tryz.pinned.checked.prog.funcNamed "pawnshop/pawnshoplaw35.MonitorNames" = some f) (hfn : Tryz.pinned.checked.prog.funcs[f]? = some fn) :
  false=Tryz.pinned.checked.prog.looks [] ∧ ∀ (j : Nat) t,fn.params[j]? = some t→Tryz.pinned.checked.prog.wantsStandIn t=false:=by
 obtain rfl : f = 3 := Option.some.inj ((show Tryz.prog.funcNamed "pawnshop/pawnshoplaw35.MonitorNames" = some 3 by kernel_rfl).symm.trans hf) |>.symm
 obtain rfl : fn=Tryz.f3:=(Option.some.inj (Tryz.func3.symm.trans hfn)).symm
 refine ⟨by kernel_rfl,fun j t ht => ?_⟩
 have hm : t ∈ Tryz.f3.params.toList:=by simpa using Array.mem_of_getElem? ht
 have hall : (Tryz.f3.params.toList.all fun u => !Tryz.prog.wantsStandIn u)=true:=by kernel_rfl
 exact (show Tryz.prog.wantsStandIn t=false by simpa using List.all_eq_true.1 hall t hm)
theorem monitorNames_card : Rows.MonitorNamesCardSaid :=
 Claim7.holds_tied_plain_at .later [] _ _ _ _ monitorNames_said (fun _ h=>by cases h) (by kernel_rfl) (fun _ h=>by cases h) monitorNames_row_tie rfl ⟨rfl,rfl⟩ (by kernel_rfl) rfl monitorNames_plain (by kernel_rfl)
end Go.Proofs.YtepdbdckjmkbhaaGreatDoor
