/- Several texts in one: MonK. -/
import Derived.Test.YtnplphcnagooeaaGreatDoorQ09
import Derived.Test.YtnplphcnagooeaaGreatDoorQ02
import Derived.Deep.DeepCutAuto
/- Contracts: monitor.clone. (printed by gen/mon35d.py) -/
namespace Go.Proofs.YtnplphcnagooeaaGreatDoor
set_option maxRecDepth 100000
open Go.RowKit
theorem krow_one (vs : List Value) (l : List Stk) (h : ∀ s ∈ vs,s.oneCell'=true) : ∀ u ∈ trows krow vs l,u.oneCell'=true:=by
 intro u hu
 obtain ⟨p,hp,hu⟩:=List.mem_flatMap.1 hu
 simp only [krow,List.mem_cons,List.not_mem_nil,or_false] at hu
 rcases hu with rfl | rfl
 ·rfl
 ·exact h _ (List.of_mem_zip hp).1
theorem Sl.one' {w : World} {k n : Nat} {v : Value} {xs : List Value} (h : Sl w k v n xs) : v.oneCell'=true:=by
 obtain ⟨a,cap,rfl,_⟩:=h.slice_form
 rfl
theorem All2.oneCellsK {w : World} {vs : List Value} {l : List Stk} (hin : All2 (fun s x=>Sts w s x.cells) vs l) : ∀ s ∈ vs,s.oneCell'=true:=fun s hs=>by
 obtain ⟨i,hi⟩:=List.mem_iff_getElem?.1 hs
 obtain ⟨x,_,us,_,h⟩:=hin.get' hi
 exact h.one'
theorem All2.oneCellsI {w : World} {vs : List Value} {l : List (List Item)} (hin : All2 (fun s x=>Its w s x) vs l) : ∀ s ∈ vs,s.oneCell'=true:=fun s hs=>by
 obtain ⟨i,hi⟩:=List.mem_iff_getElem?.1 hs
 obtain ⟨x,_,h⟩:=hin.get' hi
 exact Sl.one' h
theorem slice_form2 {w : World} {k n : Nat} {v : Value} {xs : List Value} (h : Sl w k v n xs) : ∃ a c,v = .slice a n c:=by
 obtain ⟨a,c,h1,_⟩:=h.slice_form
 exact ⟨a,c,h1⟩
def PrRow (N e k n : Nat) (xs : List Value) : Pr:=⟨fun v w=>(∃ a c,v = .slice a n c)∧Own w N e k v n xs,fun _ _ _ ⟨h1,h2⟩ he=>⟨h1,h2.ext he⟩⟩
set_option maxRecDepth 100000 in
set_option maxHeartbeats 6400000 in
theorem monitor_clone {m : Mon} {sa ss sr : Value} {w : World} (hA : Als w sa m.mem.al) (hK : Kts w ss m.stks) (hR : Nts w sr m.run) (hsA : small m.mem.al)
  (hsK : m.stks.length≤1000000 ∧ ∀ x ∈ m.stks,1≤x.cells.length∧x.cells.length≤1000000 ∧ ∀ s ∈ x.cells,s.length≤1000000) (hsR : m.run.length≤1000000) :
  Calls Tryz.prog 41 #[.agg #[sa,.int .i64 m.mem.next,ss,sr,.int .i64 m.tag,.int .i64 m.call]] w (RetCl w m):=by
 obtain ⟨⟨A,nx⟩,K,R,tg,cl⟩:=m
 dsimp only at hA hK hR hsA hsK hsR ⊢
 obtain ⟨vsA,hinA,houtA⟩:=hA
 obtain ⟨vsK,hinK,houtK⟩:=hK
 obtain ⟨ra,rc,rfl,hrc,hrcm,-⟩:=hR.form
 obtain ⟨aa,ac,rfl,hac,hacm,-⟩:=houtA.slice_form
 obtain ⟨ka,kc,rfl,hkc,hkcm,-⟩:=houtK.slice_form
 unfold maxLen at hrcm hacm hkcm
 have hE0 : Ext w ((w.alloc (.cells #[.slice aa A.length ac,.int .i64 nx,.slice ka K.length kc,.slice ra R.length rc,.int .i64 tg,.int .i64 cl] 28)).alloc (.cells #[.slice none 0 0,.int .i64 0,.slice none 0 0,.slice none 0 0,.int .i64 0,.int .i64 0] 28)):=((Ext.refl w).alloc _).alloc _
 have bM:=(Box.new w 28 #[.slice aa A.length ac,.int .i64 nx,.slice ka K.length kc,.slice ra R.length rc,.int .i64 tg,.int .i64 cl]).ext ((Ext.refl _).alloc (.cells #[.slice none 0 0,.int .i64 0,.slice none 0 0,.slice none 0 0,.int .i64 0,.int .i64 0] 28))
 have bR:=Box.new (w.alloc (.cells #[.slice aa A.length ac,.int .i64 nx,.slice ka K.length kc,.slice ra R.length rc,.int .i64 tg,.int .i64 cl] 28)) 28 #[.slice none 0 0,.int .i64 0,.slice none 0 0,.slice none 0 0,.int .i64 0,.int .i64 0]
 rw [World.size_alloc] at bR
 obtain ⟨w0,hw0⟩ : ∃ z,(w.alloc (.cells #[.slice aa A.length ac,.int .i64 nx,.slice ka K.length kc,.slice ra R.length rc,.int .i64 tg,.int .i64 cl] 28)).alloc (.cells #[.slice none 0 0,.int .i64 0,.slice none 0 0,.slice none 0 0,.int .i64 0,.int .i64 0] 28)=z:=⟨_,rfl⟩
 have hs0 : w0.heap.size=w.heap.size+2:=by rw [← hw0];simp
 rw [hw0] at hE0 bM bR
 have h1A:=arow_one vsA A (All2.oneCells hinA)
 have h1K:=krow_one vsK K (All2.oneCellsK hinK)
 have hC:=Lib.hid (clone_Allocs (houtA.ext hE0) h1A hsA.1)
 have hlA:=Lib.hid hinA.length
 have hlK:=Lib.hid hinK.length
 have hal:=Lib.hid (And.intro hinA (And.intro hsA.2 (And.intro houtK (And.intro h1K (And.intro hinK (And.intro hsK (And.intro hR hsR)))))))
 have hE0':=Lib.hid hE0
 clear hinA hinK houtA houtK h1A h1K hsA hsK hR hsR hE0
 have cc0 : w0.cell? ⟨w.heap.size,0,none⟩=some (.slice aa A.length ac):=bM.cell 0
 replace bM:=Lib.hid bM;replace bR:=Lib.hid bR
 go_enter Tryz.func41,Tryz.ntmps41
 go_wp2_with fail
 refine hC.out.mono ?_
 clear hw0 cc0
 rintro e w2 ⟨va,rfl,hO,hE2⟩
 have hv:=hO.sl.slice_form
 obtain ⟨a2,ac2,rfl,hac2,hacm2,-⟩:=hv
 unfold maxLen at hacm2
 have bM2:=bM.out.ext hE2
 have bR2:=bR.out.ext hE2
 have c0 : w2.cell? ⟨w.heap.size,0,none⟩=some (.slice aa A.length ac):=bM2.cell 0
 have f0:=bM2.frozen 0
 have hlo:=fun g e=>(hO.lt (g:=g) e).1
 have hwA : ∀ g,(Value.slice a2 A.length ac2).ownBlock=some g→g≠w.heap.size:=fun g e=>by have:=hlo g e;omega
 have hOA:=ExtBut.own hO (ExtBut.setCell w2 ⟨w.heap.size,0,none⟩ (.slice a2 A.length ac2)) (fun g e h=>hwA g e h)
 have bM3:=bM2.set 0 (.slice a2 A.length ac2)
 have bR3:=bR2.other (p:=⟨w.heap.size,0,none⟩) (by simp) (.slice a2 A.length ac2)
 have hEA:=ext_setCell_both hE2 ⟨w.heap.size,0,none⟩ (.slice a2 A.length ac2)
 have hEw:=ExtBut.ext hE0'.out (ExtBut.setCell w0 ⟨w.heap.size,0,none⟩ (.slice a2 A.length ac2)) (fun x h=>by have h' : x=w.heap.size:=h;omega)
 obtain ⟨w0a,hw0a⟩ : ∃ z,w0.setCell ⟨w.heap.size,0,none⟩ (.slice a2 A.length ac2)=z:=⟨_,rfl⟩
 have hs0a : w0a.heap.size=w.heap.size+2:=by rw [← hw0a];simpa using hs0
 rw [hw0a] at hEA hEw
 rw [hs0,← hs0a] at hOA
 have hbox:=Lib.hid (And.intro hlA.out (And.intro hOA (And.intro hEA (And.intro bM3 (And.intro bR3 hEw)))))
 clear hO hOA hEA bM3 bR3 bM2 bR2 hw0a bM bR hC hlo hwA hEw
 go_wp2
 obtain ⟨w1,hw1⟩ : ∃ z,w2.setCell ⟨w.heap.size,0,none⟩ (.slice a2 A.length ac2)=z:=⟨_,rfl⟩
 rw [hw1] at hbox ⊢
 clear hw1 c0 f0
 have hI0:=CInvV.start (RO:=OwnC) hbox.out.1 hbox.out.2.1 hbox.out.2.2.1
 have hH:=Lib.hid (And.intro hbox.out (And.intro hI0 hE0'.out))
 have hlt1:=hbox.out.2.2.2.2.1.lt
 have hvlo:=Lib.hid (fun g e=>(hbox.out.2.1.lt (g:=g) e))
 clear hbox hI0 hE2 hE0'
 go_loopw [16] (fun iv wr => ∃ k : Nat,k≤A.length∧iv = .int .i64 k∧CInvV arow 74 3 OwnC w0a w1 wr (.slice a2 A.length ac2) vsA A k) (fun iv _=>A.length - (intOf iv).toNat)
 case atStart=>exact ⟨0,Nat.zero_le _,rfl,hH.out.2.1⟩
 case round =>
  obtain ⟨k,hk,rfl,hI⟩:=hrel
  have hkeep:=hI.keep
  have bM:=hH.out.1.2.2.2.1.but hkeep (by intro h;have:=(hvlo.out _ h).1;omega)
  have bR:=hH.out.1.2.2.2.2.1.but hkeep (by intro h;have:=(hvlo.out _ h).1;omega)
  have c0 : wr.cell? ⟨w.heap.size,0,none⟩=some (.slice a2 A.length ac2):=bM.cell 0
  by_cases hlt : k < A.length
  ·obtain ⟨x,hx⟩ : ∃ x,A[k]? = some x:=⟨A[k],by simp [hlt]⟩
   obtain ⟨sv,hsv⟩ : ∃ sv,vsA[k]? = some sv:=by have:=hlA.out;exact ⟨vsA[k],by simp⟩
   obtain ⟨g,cpz,e,hI⟩:=hI.at hlt
   simp only [Value.slice.injEq] at e
   obtain ⟨rfl,-,rfl⟩:=e
   obtain ⟨vs,hvl,hOw,hin1,hap,hold⟩:=hI.vs
   have hvk:=(hold k (Nat.le_refl _)).trans hsv
   have d2 : wr.cell? ⟨g,k * 3+2,none⟩=some sv:=(hOw.cellAt (k * 3+2) (by omega)).trans ((trows_get arow arow_len hvk hx (by omega : 2 < 3)).trans rfl)
   have fr:=hOw.frozen (k * 3+2)
   have hcl : Cls wr sv x.cells:=((All2.iff.1 hal.out.1).2 k sv x hsv hx).ext (hH.out.1.2.2.2.2.2.trans hI.ext)
   have hi0 : (0 : Int)≤(k : Int):=by omega
   have hi1 : (k : Int) < (A.length : Int):=by omega
   have hgl:=(hOw.lt rfl).2
   have hCl:=Lib.hid (fun (w' : World) (h : Ext wr w')=>clone_Cells (hcl.ext h) (Cell.one x.cells) (hal.out.2.1 x (List.mem_of_getElem? hx)))
   have hOw':=Lib.hid hOw
   have hHH:=Lib.hid (And.intro hI (And.intro hx hsv))
   clear hvl hin1 hOw hap hold hvk hcl hI hx hsv hkeep
   go_wp2
   go_region_with (first | (go_at_call 62;refine (hCl.out _ ?_).mono ?_;(exact (Ext.refl _).drew);rintro e w4 ⟨sn,rfl,hOn,hEn⟩;obtain ⟨an,cn,rfl,-⟩:=hOn.sl.slice_form;have hO4:=hOw'.out.ext ((Ext.refl wr).drew.trans hEn);have c4:=hEn.cell (show wr.drew.cell? ⟨w.heap.size,0,none⟩=some (.slice (some ⟨g,0,none⟩) A.length ac2) by simpa using c0);have d4:=hEn.cell (show wr.drew.cell? ⟨g,k * 3+2,none⟩=some sv by simpa using d2);have f4:=hO4.frozen (k * 3+2)))
   all_goals
    have hEw : Ext wr w4:=(Ext.refl wr).drew.trans hEn
    have hge : w.heap.size+2≤wr.heap.size:=by have h1:=hHH.out.1.ext.size;omega
    have hst:=Lib.hid (CInv.step (RO:=OwnC) (j:=2) arow_len OwnC.keep hHH.out.1 hHH.out.2.1 hHH.out.2.2 (by omega) rfl hEw (Own.mono hOn (by rw [hs0a];simpa using hge)) (fun b e=>by have:=hOn.lt e;simpa using this))
    clear hO4 hOn
    go_wp2
    go_roundw
    case rel=>exact ⟨k+1,by omega,by go_num,.inl ⟨g,ac2,rfl,hst.out⟩⟩
    case measure=>simp [intOf];omega
  ·have hkl : k=A.length:=by omega
   subst hkl
   have hF:=hI.finish
   obtain ⟨vsL,hT,hEL,hfar⟩:=hF
   have hAl : Fq (fun b=>w.heap.size+2≤b∧b < wr.heap.size) wr (fun w=>Als w (.slice a2 A.length ac2) A):=(OM.fsx hT).mono fun b hb hl=>by
    refine ⟨?_,hl⟩
    rcases hb with hb | ⟨s,hs,hb⟩
    ·have:=(hvlo.out b hb).1;omega
    ·have:=hfar s hs b hb;omega
   have hEwL:=hH.out.1.2.2.2.2.2.trans hEL
   have hltL:=bR.lt
   obtain ⟨wL,hwL⟩ : ∃ z,wr=z:=⟨_,rfl⟩
   rw [hwL] at hAl hEwL bM bR hltL c0 ⊢
   clear hwL hT hfar hI hkeep hEL hH hlt hk
   replace hAl:=Lib.hid hAl
   have c2 : wL.cell? ⟨w.heap.size,2,none⟩=some (.slice ka K.length kc):=bM.cell 2
   go_wp2_with fail
   refine (clone_Stacks2 (hal.out.2.2.1.ext hEwL) hal.out.2.2.2.1 hal.out.2.2.2.2.2.1.1).mono ?_
   rintro e w7 ⟨vk,rfl,hOk,hE7⟩
   have hv:=hOk.sl.slice_form
   obtain ⟨k2,kc2,rfl,hkc2,hkcm2,-⟩:=hv
   unfold maxLen at hkcm2
   have bM7:=bM.ext hE7
   have bR7:=bR.ext hE7
   clear c0 c2
   have c2 : w7.cell? ⟨w.heap.size,2,none⟩=some (.slice ka K.length kc):=bM7.cell 2
   have f2:=bM7.frozen 2
   have hlo:=fun g e=>(hOk.lt (g:=g) e)
   have hOB:=ExtBut.own hOk (ExtBut.setCell w7 ⟨w.heap.size,2,none⟩ (.slice k2 K.length kc2)) (fun g e h=>by have h' : g=w.heap.size:=h;have:=hlo g e;omega)
   have bM8:=bM7.set 2 (.slice k2 K.length kc2)
   have bR8:=bR7.other (p:=⟨w.heap.size,2,none⟩) (by simp) (.slice k2 K.length kc2)
   have hEB:=ext_setCell_both hE7 ⟨w.heap.size,2,none⟩ (.slice k2 K.length kc2)
   have hEwB:=ExtBut.ext hEwL (ExtBut.setCell wL ⟨w.heap.size,2,none⟩ (.slice k2 K.length kc2)) (fun x h=>by have h' : x=w.heap.size:=h;omega)
   have hAlB:=hAl.out.to (S':=fun b=>w.heap.size+2≤b∧b < wL.heap.size) (ExtBut.setCell wL ⟨w.heap.size,2,none⟩ (.slice k2 K.length kc2)) (fun b h1 _ h2=>by have h' : b=w.heap.size:=h2;omega) (fun _ h _=>h)
   obtain ⟨wB,hwB⟩ : ∃ z,wL.setCell ⟨w.heap.size,2,none⟩ (.slice k2 K.length kc2)=z:=⟨_,rfl⟩
   have hsB : wB.heap.size=wL.heap.size:=by rw [← hwB];simp
   rw [hwB] at hEB hEwB hAlB
   rw [← hsB] at hOB hAlB
   clear hwB hOk
   have hI0:=KInv.start (c0:=fun b=>if b < wB.heap.size then 1 else 0) hlK.out hOB hEB (fun g e=>if_neg (by have:=(hlo g e).1;omega))
   have hH:=Lib.hid (And.intro hI0 (And.intro bM8 (And.intro bR8 (And.intro hEwB hAlB))))
   have hltB : w.heap.size+2≤wB.heap.size:=by omega
   have hvlo:=Lib.hid (fun g e=>(hOB.lt (g:=g) e))
   clear hI0 bM8 bR8 hEwB hAlB hOB hEB bM7 bR7 hlo bM bR hAl hE7 hEwL hltL hsB
   go_wp2
   obtain ⟨w8,hw8⟩ : ∃ z,w7.setCell ⟨w.heap.size,2,none⟩ (.slice k2 K.length kc2)=z:=⟨_,rfl⟩
   rw [hw8] at hH hvlo ⊢
   clear hw8 c2 f2
   go_loopw [41] (fun iv wr => ∃ i : Nat,i≤K.length∧iv = .int .i64 i∧KInv wB w8 wr (fun b=>if b < wB.heap.size then 1 else 0) (.slice k2 K.length kc2) vsK K i) (fun iv _=>K.length - (intOf iv).toNat)
   case atStart=>exact ⟨0,Nat.zero_le _,rfl,hH.out.1⟩
   case round =>
    obtain ⟨i,hi,rfl,hI⟩:=hrel
    have hkeep:=hI.keep
    have bM:=hH.out.2.1.but hkeep (by intro h;have:=(hvlo.out _ h).1;omega)
    have bR:=hH.out.2.2.1.but hkeep (by intro h;have:=(hvlo.out _ h).1;omega)
    obtain ⟨wi,hwi⟩ : ∃ z,wr=z:=⟨_,rfl⟩
    rw [hwi] at hI hkeep bM bR ⊢
    clear hwi
    have c2 : wi.cell? ⟨w.heap.size,2,none⟩=some (.slice k2 K.length kc2):=bM.cell 2
    by_cases hlt : i < K.length
    ·obtain ⟨x,hx⟩ : ∃ x,K[i]? = some x:=⟨K[i],by simp [hlt]⟩
     obtain ⟨sv,hsv⟩ : ∃ sv,vsK[i]? = some sv:=by have:=hlK.out;exact ⟨vsK[i],by simp⟩
     obtain ⟨g,cpz,e,hg1,hg2,d1,fr⟩:=hI.cell hx hsv
     simp only [Value.slice.injEq] at e
     obtain ⟨rfl,-,rfl⟩:=e
     have hXi:=hH.out.2.2.2.1.trans hI.ext
     obtain ⟨us0,huin,huout⟩ : Sts w sv x.cells:=(All2.iff.1 hal.out.2.2.2.2.1).2 i sv x hsv hx
     replace huout:=huout.ext hXi
     obtain ⟨hx1,hx2,hx3⟩:=hal.out.2.2.2.2.2.1.2 x (List.mem_of_getElem? hx)
     have hv:=huout.slice_form
     obtain ⟨sa,sc,rfl,hsc,hscm,-⟩:=hv
     unfold maxLen at hscm
     have hi0 : (0 : Int)≤(i : Int):=by omega
     have hi1 : (i : Int) < (K.length : Int):=by omega
     have f1:=fr (i * 2+1)
     have hsw:=hI.keep.size
     have hgi : g < wi.heap.size:=by omega
     have hgb : g≠w.heap.size:=by omega
     have hCl:=Lib.hid (fun (w' : World) (h : Ext wi w')=>clone_StackRows (huout.ext h) (srow_one us0 x.cells (All2.oneCellsI huin)) hx2)
     have hHH:=Lib.hid (And.intro hI (And.intro hx (And.intro hsv (And.intro huin (And.intro hx3 (And.intro huin.length hXi))))))
     have hbM:=Lib.hid bM
     have hbR:=Lib.hid bR
     clear huin huout hx hsv hI hx3 fr hkeep bM bR hXi
     go_wp2
     go_cut [4] from 44 to 55 (fun v4 wx=>v4 = .int .i64 (i : Int) ∧ ∃ wC gs cp,Hid (Ext wi wC∧wx=wC.setCell ⟨g,i * 2+1,none⟩ (.slice (some ⟨gs,0,none⟩) x.cells.length cp)∧wi.heap.size≤gs∧x.cells.length≤cp∧cp≤maxLen∧Own wC wi.heap.size 72 1 (.slice (some ⟨gs,0,none⟩) x.cells.length cp) x.cells.length (trows srow us0 x.cells)))
     case first =>
      go_region_with (first | (go_at_call 90;refine (hCl.out _ ?_).mono ?_;(exact (Ext.refl _).drew);rintro e w4 ⟨sn,rfl,hOn,hEn⟩;obtain ⟨gs,cn,rfl,hcn,hcm,hgs,hgs2⟩:=hOn.form (by omega);have c4:=hEn.cell (show wi.drew.cell? ⟨w.heap.size,2,none⟩=some (.slice (some ⟨g,0,none⟩) K.length kc2) by simpa using c2);have d4:=hEn.cell (show wi.drew.cell? ⟨g,i * 2+1,none⟩=some (.slice sa x.cells.length sc) by simpa using d1);have f4:=(Ext.trans (Ext.refl wi).drew hEn).cells.2 g (i * 2+1) hgi;rw [f1] at f4))
      all_goals
       have hEw : Ext wi w4:=(Ext.refl wi).drew.trans hEn
       have hOn':=Lib.hid hOn
       have hgs':=Lib.hid hgs
       have hcm':=Lib.hid hcm
       clear hOn hgs hcm
       go_wp2
       go_meet
       exact ⟨rfl,w4,gs,cn,Hid.mk ⟨hEw,rfl,by simpa using hgs'.out,hcn,hcm'.out,by simpa using hOn'.out⟩⟩
     case rest =>
      obtain ⟨rfl,wC,gs,cps,hcut'⟩:=hcut
      obtain ⟨hEC,rfl,hgs,hcn,hcm,hOn⟩:=hcut'.out
      clear hcut'
      have hsC:=hEC.size
      have hOc:=(hHH.out.1.cell hHH.out.2.1 hHH.out.2.2.1)
      have bMc:=(hbM.out.ext hEC).other (p:=⟨g,i * 2+1,none⟩) (by simpa using hgb) (.slice (some ⟨gs,0,none⟩) x.cells.length cps)
      have bRc:=(hbR.out.ext hEC).other (p:=⟨g,i * 2+1,none⟩) (by simp;omega) (.slice (some ⟨gs,0,none⟩) x.cells.length cps)
      have hOA:=ExtBut.own hOn (ExtBut.setCell wC ⟨g,i * 2+1,none⟩ (.slice (some ⟨gs,0,none⟩) x.cells.length cps)) (fun b e h=>by have h' : b=g:=h;have e' : some gs=some b:=e;cases e';omega)
      have hEA:=ext_setCell_both hEC ⟨g,i * 2+1,none⟩ (.slice (some ⟨gs,0,none⟩) x.cells.length cps)
      have dA : (wC.setCell ⟨g,i * 2+1,none⟩ (.slice (some ⟨gs,0,none⟩) x.cells.length cps)).cell? ⟨g,i * 2+1,none⟩=some (.slice (some ⟨gs,0,none⟩) x.cells.length cps):=World.cell?_setCell_same wC _ _ (hEC.cell d1)
      have hEwA:=ExtBut.ext hHH.out.2.2.2.2.2.2 (ExtBut.setCell wi ⟨g,i * 2+1,none⟩ (.slice (some ⟨gs,0,none⟩) x.cells.length cps)) (fun b h=>by have h' : b=g:=h;omega)
      obtain ⟨w0r,hw0r⟩ : ∃ z,wi.setCell ⟨g,i * 2+1,none⟩ (.slice (some ⟨gs,0,none⟩) x.cells.length cps)=z:=⟨_,rfl⟩
      have hs0r : w0r.heap.size=wi.heap.size:=by rw [← hw0r];simp
      obtain ⟨wA,hwA⟩ : ∃ z,wC.setCell ⟨g,i * 2+1,none⟩ (.slice (some ⟨gs,0,none⟩) x.cells.length cps)=z:=⟨_,rfl⟩
      have hsA : wA.heap.size=wC.heap.size:=by rw [← hwA];simp
      rw [hw0r,hwA] at hEA
      rw [hw0r] at hEwA
      rw [hwA] at bMc bRc hOA dA ⊢
      rw [← hs0r] at hOA
      have hN0:=CInv.start (RO:=OwnI) hHH.out.2.2.2.2.2.1 hOA hEA
      have hgsl:=(hOn.lt (g:=gs) rfl).2
      have cA : wA.cell? ⟨w.heap.size,2,none⟩=some (.slice (some ⟨g,0,none⟩) K.length kc2):=bMc.cell 2
      have hgl : g < wA.heap.size:=by omega
      have hne1 : gs≠g:=by omega
      have hne2 : gs≠w.heap.size:=by omega
      have hJ:=Lib.hid (And.intro hN0 (And.intro bMc (And.intro dA (And.intro hEC (And.intro hw0r (And.intro hwA hEwA))))))
      clear hN0 bMc bRc dA hOA hEA hOn hOc hEwA hw0r hwA hEC
      have dA : wA.cell? ⟨g,i * 2+1,none⟩=some (.slice (some ⟨gs,0,none⟩) x.cells.length cps):=hJ.out.2.2.1
      clear c2 d1 f1
      go_wp2
      clear cA dA
      go_loopw [63] (fun jv wr => ∃ j : Nat,j≤x.cells.length∧jv = .int .i64 j∧CInv srow 72 1 OwnI w0r wA wr gs cps us0 x.cells j) (fun jv _=>x.cells.length - (intOf jv).toNat)
      case atStart=>exact ⟨0,Nat.zero_le _,rfl,hJ.out.1⟩
      case round =>
       obtain ⟨j,hj,rfl,hN⟩:=hrel
       have hkp:=hN.keep
       obtain ⟨wj,hwj⟩ : ∃ z,wr=z:=⟨_,rfl⟩
       rw [hwj] at hN hkp ⊢
       clear hwj
       have bM:=hJ.out.2.1.but hkp (fun h=>hne2 h.symm)
       have c2 : wj.cell? ⟨w.heap.size,2,none⟩=some (.slice (some ⟨g,0,none⟩) K.length kc2):=bM.cell 2
       have d1 : wj.cell? ⟨g,i * 2+1,none⟩=some (.slice (some ⟨gs,0,none⟩) x.cells.length cps):=hkp.cell hJ.out.2.2.1 (fun h=>hne1 h.symm)
       by_cases hjl : j < x.cells.length
       ·obtain ⟨y,hy⟩ : ∃ y,x.cells[j]? = some y:=⟨x.cells[j],by simp [hjl]⟩
        obtain ⟨uv,huv⟩ : ∃ uv,us0[j]? = some uv:=by have:=hHH.out.2.2.2.2.2.1;exact ⟨us0[j],by simp⟩
        obtain ⟨vs,hvl,hOw,hin1,hap,hold⟩:=hN.vs
        have hvk:=(hold j (Nat.le_refl _)).trans huv
        have e0 : wj.cell? ⟨gs,j,none⟩=some uv:=by
         have h:=(hOw.cellAt (j * 1+0) (by omega)).trans ((trows_get srow srow_len hvk hy (by omega : 0 < 1)).trans (show (srow uv y)[0]? = some uv from rfl))
         simpa using h
        have fe:=hOw.frozen j
        have hXj:=hJ.out.2.2.2.2.2.2.trans hN.ext
        have hit : Its wj uv y:=((All2.iff.1 hHH.out.2.2.2.1).2 j uv y huv hy).ext hXj
        have hjl1 : y.length≤1000000:=hHH.out.2.2.2.2.1 y (List.mem_of_getElem? hy)
        have hvi:=hit.form
        obtain ⟨ua,uc,rfl,-⟩:=hvi
        have hj0 : (0 : Int)≤(j : Int):=by omega
        have hj1 : (j : Int) < (x.cells.length : Int):=by omega
        have hsj:=hkp.size
        have hgsj : gs < wj.heap.size:=by omega
        have hgj : g < wj.heap.size:=by omega
        have hCj:=Lib.hid (fun (w' : World) (h : Ext wj w')=>clone_Stack (hit.ext h) hjl1)
        have hJJ:=Lib.hid (And.intro hN (And.intro hy huv))
        clear hvl hin1 hOw hap hold hvk hit hy huv hN hkp bM hXj
        go_wp2
        skip
        obtain ⟨MB,hMB⟩ : ∃ n,Array.size (World.heap w)=n:=⟨_,rfl⟩
        rw [hMB] at c2 ⊢
        replace hMB:=Lib.hid hMB
        refine wp_region_tail' (m:=18) (t:=1) (L:=[Pr.eq (.pointer (some ⟨MB,2,none⟩)),Pr.eq (.slice (some ⟨g,0,none⟩) K.length kc2),Pr.eq (.int .i64 (i : Int)),Pr.eq (.pointer (some ⟨g,i * 2,none⟩)),Pr.eq (.pointer (some ⟨g,i * 2+1,none⟩)),Pr.eq (.slice (some ⟨gs,0,none⟩) x.cells.length cps),Pr.eq (.int .i64 (j : Int)),Pr.eq (.pointer (some ⟨MB,2,none⟩)),Pr.eq (.slice (some ⟨g,0,none⟩) K.length kc2),Pr.eq (.int .i64 (i : Int)),Pr.eq (.pointer (some ⟨g,i * 2,none⟩)),Pr.eq (.pointer (some ⟨g,i * 2+1,none⟩)),Pr.eq (.slice (some ⟨gs,0,none⟩) x.cells.length cps),Pr.eq (.int .i64 (j : Int)),Pr.eq (.pointer (some ⟨gs,j,none⟩)),Pr.eq (.slice ua y.length uc),(PrRow wj.heap.size 70 3 y.length (y.flatMap Item.row)),Pr.eq (.pointer (some ⟨gs,j,none⟩))]) (by kernel_rfl) (by kernel_rfl) (by kernel_rfl) ?_ ?_
        ·refine ⟨?_,?_,?_,?_,?_,?_,?_,?_,?_,?_,?_,?_,?_,?_,?_,?_,?_,?_,trivial⟩
         ·intro a w hE hd ho
          refine .inl ⟨rfl,?_⟩
          intro Kq hK
          have hF : Ext wj w:=Ext.trans ((Ext.refl _).drew) hE
          have e1 : a.eval (.tmp 1) = .pointer (some ⟨MB,0,none⟩):=ho 1 (by kernel_rfl)
          rw [eval_tmp] at e1
          clear c2 d1 e0
          clear hd ho
          replace hK:=Lib.hid hK
          go_simp
          exact hK.out _ _ rfl (Ext.refl _)
         ·intro a w hE hd ho
          refine .inl ⟨rfl,?_⟩
          intro Kq hK
          have hF : Ext wj w:=Ext.trans ((Ext.refl _).drew) hE
          have e66 : a.eval (.tmp 66) = .pointer (some ⟨MB,2,none⟩):=hd 0 (by kernel_rfl)
          rw [eval_tmp] at e66
          have c2w:=Ext.cell hF c2
          clear c2 d1 e0
          clear hd ho
          replace hK:=Lib.hid hK
          go_simp
          exact hK.out _ _ rfl (Ext.refl _)
         ·intro a w hE hd ho
          refine .inl ⟨rfl,?_⟩
          intro Kq hK
          have hF : Ext wj w:=Ext.trans ((Ext.refl _).drew) hE
          have e4 : a.eval (.tmp 4) = .int .i64 (i : Int):=ho 4 (by kernel_rfl)
          rw [eval_tmp] at e4
          clear c2 d1 e0
          clear hd ho
          replace hK:=Lib.hid hK
          go_simp
          exact hK.out _ _ rfl (Ext.refl _)
         ·intro a w hE hd ho
          refine .inl ⟨rfl,?_⟩
          intro Kq hK
          have hF : Ext wj w:=Ext.trans ((Ext.refl _).drew) hE
          have e67 : a.eval (.tmp 67) = .slice (some ⟨g,0,none⟩) K.length kc2:=hd 1 (by kernel_rfl)
          rw [eval_tmp] at e67
          have e68 : a.eval (.tmp 68) = .int .i64 (i : Int):=hd 2 (by kernel_rfl)
          rw [eval_tmp] at e68
          clear c2 d1 e0
          clear hd ho
          replace hK:=Lib.hid hK
          go_simp
          exact hK.out _ _ rfl (Ext.refl _)
         ·intro a w hE hd ho
          refine .inl ⟨rfl,?_⟩
          intro Kq hK
          have hF : Ext wj w:=Ext.trans ((Ext.refl _).drew) hE
          have e69 : a.eval (.tmp 69) = .pointer (some ⟨g,i * 2,none⟩):=hd 3 (by kernel_rfl)
          rw [eval_tmp] at e69
          clear c2 d1 e0
          clear hd ho
          replace hK:=Lib.hid hK
          go_simp
          exact hK.out _ _ rfl (Ext.refl _)
         ·intro a w hE hd ho
          refine .inl ⟨rfl,?_⟩
          intro Kq hK
          have hF : Ext wj w:=Ext.trans ((Ext.refl _).drew) hE
          have e70 : a.eval (.tmp 70) = .pointer (some ⟨g,i * 2+1,none⟩):=hd 4 (by kernel_rfl)
          rw [eval_tmp] at e70
          have d1w:=Ext.cell hF d1
          clear c2 d1 e0
          clear hd ho
          replace hK:=Lib.hid hK
          go_simp
          exact hK.out _ _ rfl (Ext.refl _)
         ·intro a w hE hd ho
          refine .inl ⟨rfl,?_⟩
          intro Kq hK
          have hF : Ext wj w:=Ext.trans ((Ext.refl _).drew) hE
          have e5 : a.eval (.tmp 5) = .int .i64 (j : Int):=ho 5 (by kernel_rfl)
          rw [eval_tmp] at e5
          clear c2 d1 e0
          clear hd ho
          replace hK:=Lib.hid hK
          go_simp
          exact hK.out _ _ rfl (Ext.refl _)
         ·intro a w hE hd ho
          refine .inl ⟨rfl,?_⟩
          intro Kq hK
          have hF : Ext wj w:=Ext.trans ((Ext.refl _).drew) hE
          have e1 : a.eval (.tmp 1) = .pointer (some ⟨MB,0,none⟩):=ho 1 (by kernel_rfl)
          rw [eval_tmp] at e1
          clear c2 d1 e0
          clear hd ho
          replace hK:=Lib.hid hK
          go_simp
          exact hK.out _ _ rfl (Ext.refl _)
         ·intro a w hE hd ho
          refine .inl ⟨rfl,?_⟩
          intro Kq hK
          have hF : Ext wj w:=Ext.trans ((Ext.refl _).drew) hE
          have e73 : a.eval (.tmp 73) = .pointer (some ⟨MB,2,none⟩):=hd 7 (by kernel_rfl)
          rw [eval_tmp] at e73
          have c2w:=Ext.cell hF c2
          clear c2 d1 e0
          clear hd ho
          replace hK:=Lib.hid hK
          go_simp
          exact hK.out _ _ rfl (Ext.refl _)
         ·intro a w hE hd ho
          refine .inl ⟨rfl,?_⟩
          intro Kq hK
          have hF : Ext wj w:=Ext.trans ((Ext.refl _).drew) hE
          have e4 : a.eval (.tmp 4) = .int .i64 (i : Int):=ho 4 (by kernel_rfl)
          rw [eval_tmp] at e4
          clear c2 d1 e0
          clear hd ho
          replace hK:=Lib.hid hK
          go_simp
          exact hK.out _ _ rfl (Ext.refl _)
         ·intro a w hE hd ho
          refine .inl ⟨rfl,?_⟩
          intro Kq hK
          have hF : Ext wj w:=Ext.trans ((Ext.refl _).drew) hE
          have e74 : a.eval (.tmp 74) = .slice (some ⟨g,0,none⟩) K.length kc2:=hd 8 (by kernel_rfl)
          rw [eval_tmp] at e74
          have e75 : a.eval (.tmp 75) = .int .i64 (i : Int):=hd 9 (by kernel_rfl)
          rw [eval_tmp] at e75
          clear c2 d1 e0
          clear hd ho
          replace hK:=Lib.hid hK
          go_simp
          exact hK.out _ _ rfl (Ext.refl _)
         ·intro a w hE hd ho
          refine .inl ⟨rfl,?_⟩
          intro Kq hK
          have hF : Ext wj w:=Ext.trans ((Ext.refl _).drew) hE
          have e76 : a.eval (.tmp 76) = .pointer (some ⟨g,i * 2,none⟩):=hd 10 (by kernel_rfl)
          rw [eval_tmp] at e76
          clear c2 d1 e0
          clear hd ho
          replace hK:=Lib.hid hK
          go_simp
          exact hK.out _ _ rfl (Ext.refl _)
         ·intro a w hE hd ho
          refine .inl ⟨rfl,?_⟩
          intro Kq hK
          have hF : Ext wj w:=Ext.trans ((Ext.refl _).drew) hE
          have e77 : a.eval (.tmp 77) = .pointer (some ⟨g,i * 2+1,none⟩):=hd 11 (by kernel_rfl)
          rw [eval_tmp] at e77
          have d1w:=Ext.cell hF d1
          clear c2 d1 e0
          clear hd ho
          replace hK:=Lib.hid hK
          go_simp
          exact hK.out _ _ rfl (Ext.refl _)
         ·intro a w hE hd ho
          refine .inl ⟨rfl,?_⟩
          intro Kq hK
          have hF : Ext wj w:=Ext.trans ((Ext.refl _).drew) hE
          have e5 : a.eval (.tmp 5) = .int .i64 (j : Int):=ho 5 (by kernel_rfl)
          rw [eval_tmp] at e5
          clear c2 d1 e0
          clear hd ho
          replace hK:=Lib.hid hK
          go_simp
          exact hK.out _ _ rfl (Ext.refl _)
         ·intro a w hE hd ho
          refine .inl ⟨rfl,?_⟩
          intro Kq hK
          have hF : Ext wj w:=Ext.trans ((Ext.refl _).drew) hE
          have e78 : a.eval (.tmp 78) = .slice (some ⟨gs,0,none⟩) x.cells.length cps:=hd 12 (by kernel_rfl)
          rw [eval_tmp] at e78
          have e79 : a.eval (.tmp 79) = .int .i64 (j : Int):=hd 13 (by kernel_rfl)
          rw [eval_tmp] at e79
          clear c2 d1 e0
          clear hd ho
          replace hK:=Lib.hid hK
          go_simp
          exact hK.out _ _ rfl (Ext.refl _)
         ·intro a w hE hd ho
          refine .inl ⟨rfl,?_⟩
          intro Kq hK
          have hF : Ext wj w:=Ext.trans ((Ext.refl _).drew) hE
          have e80 : a.eval (.tmp 80) = .pointer (some ⟨gs,j,none⟩):=hd 14 (by kernel_rfl)
          rw [eval_tmp] at e80
          have e0w:=Ext.cell hF e0
          clear c2 d1 e0
          clear hd ho
          replace hK:=Lib.hid hK
          go_simp
          exact hK.out _ _ rfl (Ext.refl _)
         ·intro a w hE hd ho
          refine .inl ⟨rfl,?_⟩
          intro Kq hK
          have hF : Ext wj w:=Ext.trans ((Ext.refl _).drew) hE
          have e81 : a.eval (.tmp 81) = .slice ua y.length uc:=hd 15 (by kernel_rfl)
          rw [eval_tmp] at e81
          clear c2 d1 e0
          clear hd ho
          replace hK:=Lib.hid hK
          go_simp
          refine (hCj.out _ hF).mono ?_
          rintro e wz ⟨sn,rfl,hOn,hZ⟩
          go_simp
          exact hK.out _ _ ⟨slice_form2 hOn.sl,Own.mono hOn hF.size⟩ hZ
         ·intro a w hE hd ho
          refine .inl ⟨rfl,?_⟩
          intro Kq hK
          have hF : Ext wj w:=Ext.trans ((Ext.refl _).drew) hE
          have e71 : a.eval (.tmp 71) = .slice (some ⟨gs,0,none⟩) x.cells.length cps:=hd 5 (by kernel_rfl)
          rw [eval_tmp] at e71
          have e72 : a.eval (.tmp 72) = .int .i64 (j : Int):=hd 6 (by kernel_rfl)
          rw [eval_tmp] at e72
          clear c2 d1 e0
          clear hd ho
          replace hK:=Lib.hid hK
          go_simp
          exact hK.out _ _ rfl (Ext.refl _)
        ·intro fuel vals Ac wz hAc hev hE hv
         have hF : Ext wj wz:=Ext.trans ((Ext.refl _).drew) hE
         have et : vals 17 = .pointer (some ⟨gs,j,none⟩):=hv 17 (by decide)
         obtain ⟨⟨an,cn,eu⟩,hOn⟩:=(show prAt _ 16 (vals 16) wz from hv 16 (by decide))
         have kt : Ac.eval (.tmp 83)=_:=(hev 17 (by decide)).trans et
         have ku : Ac.eval (.tmp 82)=_:=(hev 16 (by decide)).trans eu
         rw [eval_tmp] at kt ku
         rw [eu] at hOn
         have e4 : World.cell? wz ⟨gs,j,none⟩=some (.slice ua y.length uc):=hF.cell e0
         have f4:=hF.cells.2 gs j hgsj
         rw [fe] at f4
         have hst:=CInv.step (RO:=OwnI) (j:=0) srow_len OwnI.keep hJJ.out.1 hJJ.out.2.1 hJJ.out.2.2 (by omega) rfl hF (Own.mono hOn hJJ.out.1.ext.size) (fun b e=>hOn.lt e)
         simp only [Nat.mul_one,Nat.add_zero] at hst
         replace hst:=Lib.hid hst
         clear hOn
         clear hv hev hE
         replace hAc:=Lib.hid hAc;replace et:=Lib.hid et;replace eu:=Lib.hid eu
         refine wpAny_ready (rs:=[18]) (by kernel_rfl) (by simp) ?_
         refine AllReady.cons rfl (fun Kc hK => ?_) AllReady.nil
         go_simp
         refine hK _ _ ?_
         clear hK Kc kt ku
         refine wpAny_done (by kernel_rfl) ?_ _
         replace hAc:=hAc.out
         subst hAc
         simp only [List.take_succ_cons,List.take_zero,putAll]
         go_simp
         go_wp2
         have hMB2:=hMB.out
         subst hMB2
         go_roundw
         case rel=>exact ⟨j+1,by omega,by go_num,hst.out⟩
         case measure=>simp [intOf];omega
       ·have hje : j=x.cells.length:=by omega
        subst hje
        have hst:=Lib.hid (KInv.step hHH.out.1 hHH.out.2.1 hJ.out.2.2.2.1 hgs (by rw [hJ.out.2.2.2.2.1,hJ.out.2.2.2.2.2.1];exact hN))
        clear hN hkp bM hjl hj
        go_wp2
        go_roundw
        case rel=>exact ⟨i+1,by omega,by go_num,hst.out⟩
        case measure=>simp [intOf];omega
    ·have hie : i=K.length:=by omega
     subst hie
     have hext:=hI.ext
     obtain ⟨vsF,cF,hvF,hOF,hrF,hcF⟩:=hI.finish
     have hsw:=hkeep.size
     have hAlF:=hH.out.2.2.2.2.to (S':=fun b=>w.heap.size+2≤b∧b < wB.heap.size) ((ExtBut.of_ext (S:=fun b=>(Value.slice k2 K.length kc2).ownBlock=some b) hI.ext0).trans hkeep) (fun b h1 _ h2=>by have:=(hvlo.out b h2).1;omega) (fun _ h _=>h)
     have hEwF:=hH.out.2.2.2.1.trans hext
     have hltF:=bR.lt
     have c3 : wi.cell? ⟨w.heap.size,3,none⟩=some (.slice ra R.length rc):=bM.cell 3
     have hB8:=(hI.ext0).size
     have hQ:=Lib.hid (And.intro hvF (And.intro hOF (And.intro hrF (And.intro hcF (And.intro hAlF hEwF)))))
     have hRi:=Lib.hid (hal.out.2.2.2.2.2.2.1.ext hEwF)
     clear hvF hOF hrF hcF hAlF hI hkeep hext hlt hi hEwF
     go_wp2_with fail
     refine (clone_Ints hRi.out hal.out.2.2.2.2.2.2.2).mono ?_
     rintro e w9 ⟨vr,rfl,hOr,hE9⟩
     have hv:=hOr.sl.slice_form
     obtain ⟨r2,rc2,rfl,-⟩:=hv
     have bM9:=bM.ext hE9
     have bR9:=bR.ext hE9
     have hs9:=hE9.size
     clear c2 c3
     have c3 : w9.cell? ⟨w.heap.size,3,none⟩=some (.slice ra R.length rc):=bM9.cell 3
     have f3:=bM9.frozen 3
     have m0 : w9.cell? ⟨w.heap.size,0,none⟩=some (.slice a2 A.length ac2):=bM9.cell 0
     have m1 : w9.cell? ⟨w.heap.size,1,none⟩=some (.int .i64 nx):=bM9.cell 1
     have m2 : w9.cell? ⟨w.heap.size,2,none⟩=some (.slice k2 K.length kc2):=bM9.cell 2
     have m4 : w9.cell? ⟨w.heap.size,4,none⟩=some (.int .i64 tg):=bM9.cell 4
     have m5 : w9.cell? ⟨w.heap.size,5,none⟩=some (.int .i64 cl):=bM9.cell 5
     have r0 : w9.cell? ⟨w.heap.size+1,0,none⟩=some (.slice none 0 0):=bR9.cell 0
     have r1 : w9.cell? ⟨w.heap.size+1,1,none⟩=some (.int .i64 0):=bR9.cell 1
     have r2' : w9.cell? ⟨w.heap.size+1,2,none⟩=some (.slice none 0 0):=bR9.cell 2
     have r3 : w9.cell? ⟨w.heap.size+1,3,none⟩=some (.slice none 0 0):=bR9.cell 3
     have r4 : w9.cell? ⟨w.heap.size+1,4,none⟩=some (.int .i64 0):=bR9.cell 4
     have r5 : w9.cell? ⟨w.heap.size+1,5,none⟩=some (.int .i64 0):=bR9.cell 5
     have rf0:=bR9.frozen 0;have rf1:=bR9.frozen 1;have rf2:=bR9.frozen 2;have rf3:=bR9.frozen 3;have rf4:=bR9.frozen 4;have rf5:=bR9.frozen 5
     have hlt9:=bR9.lt
     have hOr':=Lib.hid hOr
     clear hOr bM9 bR9 bM bR
     go_wp2
     have hX:=(ExtBut.setCell w9 ⟨w.heap.size,3,none⟩ (.slice r2 R.length rc2)).mono (S':=fun b=>b=w.heap.size∨b=w.heap.size+1) (fun y _ h => .inl h)
     have hXR:=(ExtBut.trans (ExtBut.trans (ExtBut.trans (ExtBut.trans (ExtBut.trans (ExtBut.trans hX ((ExtBut.setCell _ ⟨w.heap.size+1,0,none⟩ (.slice a2 A.length ac2)).mono (S':=fun b=>b=w.heap.size∨b=w.heap.size+1) (fun y _ h => .inr h))) ((ExtBut.setCell _ ⟨w.heap.size+1,1,none⟩ (.int .i64 nx)).mono (S':=fun b=>b=w.heap.size∨b=w.heap.size+1) (fun y _ h => .inr h))) ((ExtBut.setCell _ ⟨w.heap.size+1,2,none⟩ (.slice k2 K.length kc2)).mono (S':=fun b=>b=w.heap.size∨b=w.heap.size+1) (fun y _ h => .inr h))) ((ExtBut.setCell _ ⟨w.heap.size+1,3,none⟩ (.slice r2 R.length rc2)).mono (S':=fun b=>b=w.heap.size∨b=w.heap.size+1) (fun y _ h => .inr h))) ((ExtBut.setCell _ ⟨w.heap.size+1,4,none⟩ (.int .i64 tg)).mono (S':=fun b=>b=w.heap.size∨b=w.heap.size+1) (fun y _ h => .inr h))) ((ExtBut.setCell _ ⟨w.heap.size+1,5,none⟩ (.int .i64 cl)).mono (S':=fun b=>b=w.heap.size∨b=w.heap.size+1) (fun y _ h => .inr h)))
     refine bodyPost_ret (v := .agg #[.slice a2 A.length ac2,.int .i64 nx,.slice k2 K.length kc2,.slice r2 R.length rc2,.int .i64 tg,.int .i64 cl]) (by simp [results,Tryz.f41,go_sem,r0,r1,r2',r3,r4,r5]) rfl ?_
     have hX:=hXR
     obtain ⟨hvF,hOF,hrF,hcF,hAlF,hEwF⟩:=hQ.out
     have hX9 : ExtBut (fun b=>b=w.heap.size∨b=w.heap.size+1) wi _:=(ExtBut.of_ext hE9).trans hX
     refine ⟨fun b=>if b < wi.heap.size then cF b else 2,_,_,_,vsF,rfl,⟨?_,?_,hvF,?_,?_,?_⟩,ExtBut.ext hEwF hX9 (fun b h=>by omega)⟩
     ·exact hAlF.to hX9 (fun b h1 _ h2=>by omega) (fun b h1 h2=>⟨by omega,by
       show (if b < wi.heap.size then cF b else 2)=1
       rw [if_pos h2,hcF b (by omega)]
       exact if_pos h1.2⟩)
     ·refine Fq.to (S:=fun b=>wi.heap.size≤b) (fun w'' hb=>Own.sl_of hOr'.out hb) hX (fun b h1 _ h2=>by omega) (fun b h1 _=>⟨by omega,if_neg (by omega)⟩)
     ·exact (ExtBut.own hOF hX9 (fun g e h=>by have:=hvlo.out g e;omega)).mono (by omega)
     ·intro g e
      have:=hvlo.out g e
      show (if g < wi.heap.size then cF g else 2)=0
      rw [if_pos (by omega),hcF g (by omega)]
      exact if_neg (by omega)
     ·intro i u y hu hy
      exact (hrF i u y hu hy).to hX9 (by omega) (fun b h1 _ _ h2=>by omega) (fun b _ h2 h3=>by rw [if_pos h2];exact h3)
end Go.Proofs.YtnplphcnagooeaaGreatDoor
