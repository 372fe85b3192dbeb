/- Several texts in one: TopF, StpB, ReadU, TopI. -/
import Derived.Test.YtoanoodfacmieaaDoorQ22
import Derived.Test.YtoanoodfacmieaaDoorQ18
import Derived.Test.YtoanoodfacmieaaDoorQ19
import Derived.Test.YtoanoodfacmieaaDoorQ21
import Derived.Test.YtoanoodfacmieaaDoorQ14
import Derived.Test.YtoanoodfacmieaaDoorQ11
import Derived.Test.YtoanoodfacmieaaDoorQ16
import Derived.Test.YtoanoodfacmieaaDoorQ07
import Derived.Test.YtoanoodfacmieaaDoorQ03
/- Contract: pawnshoptop.called35. (printed by gen/top35.py) -/
namespace Go.Proofs.YtoanoodfacmieaaDoor
set_option maxRecDepth 100000
open Go.RowKit
def PrLen (n : Nat) : Pr:=⟨fun v _ => ∃ a c,v = .slice a n c,fun _ _ _ h _=>h⟩
def PrLenT (n : Nat) : Pr:=⟨fun v _ => ∃ a c,v = .tuple #[.slice a n c,.int .i64 0],fun _ _ _ h _=>h⟩
def CalledOk (m0 : Mon) (l : List Cell) (tn t : Int) : Prop := ∃ (m1 m2 m3 m4 md : Mon) (C : List (List Item)) (L : List Item),enterM m0=(m1,1,0)∧retagM m1 ⟨0,0,tn⟩ l.length 1 1=(m2,⟨0,0,t⟩,0,0)∧m2.stks=[⟨0,C⟩]∧protR ⟨0,C⟩ m2.run=(L,0)∧L.length=l.length ∧
 endM m2 0=(Mon.zero,2,0)∧storeM m2 ⟨0,0,1⟩ l=(Mon.zero,2,0)∧leaveM m2=(m3,0)∧storeM m3 ⟨0,0,1⟩ l=(m4,0,0)∧loadM m4 ⟨0,0,1⟩ l.length=(m4,l,0,0)∧loadM m4 ⟨0,0,t⟩ l.length=(Mon.zero,[],1,0) ∧
 (tn≠1→loadM m4 ⟨0,0,tn⟩ l.length=(Mon.zero,[],1,0))∧endM m4 0=(md,0,0)∧loadM md ⟨0,0,1⟩ l.length=(Mon.zero,[],3,0)∧True∧okMon m0=true∧okMon m1=true∧okMon m2=true∧okMon m3=true∧okMon m4=true∧okMon md=true∧okR m2.run=true
theorem TopCalled.called {l : List Cell} {S S' : List Item} {tn t : Int} (h : TopCalled l S S' tn t) (h0 : okMon (oneM l S [] t 1)=true) : CalledOk (oneM l S [] t 1) l tn t:=by
 obtain ⟨L,hL,hLl⟩:=h.kept
 obtain ⟨md,hd1,hd2,hd3⟩:=h.gone
 exact ⟨_,_,_,_,md,_,L,h.enter,h.tag,rfl,hL,hLl,h.held,h.prot,h.leave,h.store,h.load,h.own,h.newest,hd1,hd3,trivial,h0,h.ok1,h.ok2,h.ok3,h.ok4,hd2,(by decide : okR [1]=true)⟩
set_option maxRecDepth 100000 in
set_option maxHeartbeats 6400000 in
theorem top_called35 {m0 : Mon} {l : List Cell} {tn t : Int} {vm vl : Value} {wS : World} (hp : Perms wS) (hC : CalledOk m0 l tn t) (hm : RdMon wS vm m0) (hl : Cls wS vl l) :
  Calls Tryd.prog 15 #[vm,.agg #[.int .i64 0,.int .i64 0,.int .i64 1],.agg #[.int .i64 0,.int .i64 0,.int .i64 tn],vl] wS fun e w'=>e = .returned (.bool true)∧Ext wS w':=by
 obtain ⟨m1,m2,m3,m4,md,C,L,c1,c2,c3,c4,c5,c6,c7,c8,c9,c10,c11,c12,c13,c14,c15,k0,k1,k2,k3,k4,k5,hrk⟩:=hC
 obtain ⟨sa,ss,sr,rfl,hA,hK,hR⟩:=hm
 obtain ⟨aa,ac,rfl,hac,hacm,-⟩:=hA.form
 obtain ⟨ka,kc,rfl,hkc,hkcm,-⟩:=hK.form
 obtain ⟨ra,rc,rfl,hrc,hrcm,-⟩:=hR.form
 obtain ⟨lla,llc,rfl,hlc,hlm,-⟩:=hl.form
 unfold maxLen at hacm hkcm hrcm hlm
 replace c1:=Lib.hid c1
 replace c2:=Lib.hid c2
 replace c3:=Lib.hid c3
 replace c4:=Lib.hid c4
 replace c5:=Lib.hid c5
 replace c6:=Lib.hid c6
 replace c7:=Lib.hid c7
 replace c8:=Lib.hid c8
 replace c9:=Lib.hid c9
 replace c10:=Lib.hid c10
 replace c11:=Lib.hid c11
 replace c12:=Lib.hid c12
 replace c13:=Lib.hid c13
 replace c14:=Lib.hid c14
 replace c15:=Lib.hid c15
 replace k0:=Lib.hid k0
 replace k1:=Lib.hid k1
 replace k2:=Lib.hid k2
 replace k3:=Lib.hid k3
 replace k4:=Lib.hid k4
 replace k5:=Lib.hid k5
 replace hrk:=Lib.hid hrk
 have hE0 : Ext wS (World.alloc (World.alloc (World.alloc wS (.cells #[.slice aa m0.mem.al.length ac,.int .i64 m0.mem.next,.slice ka m0.stks.length kc,.slice ra m0.run.length rc,.int .i64 m0.tag,.int .i64 m0.call] 35)) (.cells #[.int .i64 0,.int .i64 0,.int .i64 1] 26)) (.cells #[.int .i64 0,.int .i64 0,.int .i64 tn] 26)):=by repeat (first | exact Ext.refl _ | refine Ext.alloc ?_ _)
 have bM : Box (World.alloc (World.alloc (World.alloc wS (.cells #[.slice aa m0.mem.al.length ac,.int .i64 m0.mem.next,.slice ka m0.stks.length kc,.slice ra m0.run.length rc,.int .i64 m0.tag,.int .i64 m0.call] 35)) (.cells #[.int .i64 0,.int .i64 0,.int .i64 1] 26)) (.cells #[.int .i64 0,.int .i64 0,.int .i64 tn] 26)) (wS.heap.size) 35 #[.slice aa m0.mem.al.length ac,.int .i64 m0.mem.next,.slice ka m0.stks.length kc,.slice ra m0.run.length rc,.int .i64 m0.tag,.int .i64 m0.call]:=(by
  have h:=Box.new wS 35 #[.slice aa m0.mem.al.length ac,.int .i64 m0.mem.next,.slice ka m0.stks.length kc,.slice ra m0.run.length rc,.int .i64 m0.tag,.int .i64 m0.call]
  replace h:=Box.ext h ((Ext.refl _).alloc (.cells #[.int .i64 0,.int .i64 0,.int .i64 1] 26))
  replace h:=Box.ext h ((Ext.refl _).alloc (.cells #[.int .i64 0,.int .i64 0,.int .i64 tn] 26))
  exact h)
 have bP : Box (World.alloc (World.alloc (World.alloc wS (.cells #[.slice aa m0.mem.al.length ac,.int .i64 m0.mem.next,.slice ka m0.stks.length kc,.slice ra m0.run.length rc,.int .i64 m0.tag,.int .i64 m0.call] 35)) (.cells #[.int .i64 0,.int .i64 0,.int .i64 1] 26)) (.cells #[.int .i64 0,.int .i64 0,.int .i64 tn] 26)) (wS.heap.size+1) 26 #[.int .i64 0,.int .i64 0,.int .i64 1]:=(by
  have h:=Box.new (World.alloc wS (.cells #[.slice aa m0.mem.al.length ac,.int .i64 m0.mem.next,.slice ka m0.stks.length kc,.slice ra m0.run.length rc,.int .i64 m0.tag,.int .i64 m0.call] 35)) 26 #[.int .i64 0,.int .i64 0,.int .i64 1]
  simp only [World.size_alloc] at h
  replace h:=Box.ext h ((Ext.refl _).alloc (.cells #[.int .i64 0,.int .i64 0,.int .i64 tn] 26))
  exact h)
 have bN : Box (World.alloc (World.alloc (World.alloc wS (.cells #[.slice aa m0.mem.al.length ac,.int .i64 m0.mem.next,.slice ka m0.stks.length kc,.slice ra m0.run.length rc,.int .i64 m0.tag,.int .i64 m0.call] 35)) (.cells #[.int .i64 0,.int .i64 0,.int .i64 1] 26)) (.cells #[.int .i64 0,.int .i64 0,.int .i64 tn] 26)) (wS.heap.size+2) 26 #[.int .i64 0,.int .i64 0,.int .i64 tn]:=(by
  have h:=Box.new (World.alloc (World.alloc wS (.cells #[.slice aa m0.mem.al.length ac,.int .i64 m0.mem.next,.slice ka m0.stks.length kc,.slice ra m0.run.length rc,.int .i64 m0.tag,.int .i64 m0.call] 35)) (.cells #[.int .i64 0,.int .i64 0,.int .i64 1] 26)) 26 #[.int .i64 0,.int .i64 0,.int .i64 tn]
  simp only [World.size_alloc] at h
  exact h)
 obtain ⟨w0,hw0⟩ : ∃ z,(World.alloc (World.alloc (World.alloc wS (.cells #[.slice aa m0.mem.al.length ac,.int .i64 m0.mem.next,.slice ka m0.stks.length kc,.slice ra m0.run.length rc,.int .i64 m0.tag,.int .i64 m0.call] 35)) (.cells #[.int .i64 0,.int .i64 0,.int .i64 1] 26)) (.cells #[.int .i64 0,.int .i64 0,.int .i64 tn] 26))=z:=⟨_,rfl⟩
 rw [hw0] at hE0 bM bP bN
 have lowbM : Hid (wS.heap.size≤wS.heap.size):=Hid.mk (Nat.le_refl _)
 have ne_bM_bP : Hid (wS.heap.size≠wS.heap.size+1):=Hid.mk (by omega)
 have ne_bM_bN : Hid (wS.heap.size≠wS.heap.size+2):=Hid.mk (by omega)
 replace hA:=Lib.hid hA;replace hK:=Lib.hid hK;replace hR:=Lib.hid hR;replace hl:=Lib.hid hl;replace hp:=Lib.hid hp
 go_enter Tryd.func15,Tryd.ntmps15
 obtain ⟨bM_0,bM_1,bM_2,bM_3,bM_4,bM_5,bM_l⟩:=bM.c6
 go_wp2_with fail
 try rw [hw0]
 clear hw0
 clear bM_0 bM_1 bM_2 bM_3 bM_4 bM_5 bM_l
 have ltbM:=Lib.hid bM.lt
 refine (monitor_Enter (hA.out.ext hE0) (i64_of_ok k0.out) (hK.out.ext hE0) (hR.out.ext hE0)).mono ?_
 rintro e w1 ⟨vt,rfl,fM,hE1⟩
 replace bM:=bM.ext hE1
 replace bP:=bP.ext hE1
 replace bN:=bN.ext hE1
 have hF1:=Ext.trans hE0 hE1
 rw [c1.out] at fM ⊢
 try dsimp only [Ptr.val] at fM ⊢
 obtain ⟨bsa,bss,bsr,rfl,qb⟩:=FrMon.parts fM
 clear fM
 obtain ⟨v_ba,v_bac,rfl,-⟩:=(qb.read).1.form
 obtain ⟨v_bk,v_bkc,rfl,-⟩:=(qb.read).2.1.form
 obtain ⟨v_br,v_brc,rfl,-⟩:=(qb.read).2.2.form
 try dsimp only at qb ⊢
 have Gb:=Lib.hid (Fq.mono (S':=(fun b=>b≠wS.heap.size∧True)) qb (fun b h1 _=>by have gbM:=ltbM.out;exact ⟨by omega,trivial⟩))
 clear qb ltbM
 have bM_0 : World.cell? w1 ⟨wS.heap.size,0,none⟩=some (.slice aa m0.mem.al.length ac):=bM.cell 0
 have bM_1 : World.cell? w1 ⟨wS.heap.size,1,none⟩=some (.int .i64 m0.mem.next):=bM.cell 1
 have bM_2 : World.cell? w1 ⟨wS.heap.size,2,none⟩=some (.slice ka m0.stks.length kc):=bM.cell 2
 have bM_3 : World.cell? w1 ⟨wS.heap.size,3,none⟩=some (.slice ra m0.run.length rc):=bM.cell 3
 have bM_4 : World.cell? w1 ⟨wS.heap.size,4,none⟩=some (.int .i64 m0.tag):=bM.cell 4
 have bM_5 : World.cell? w1 ⟨wS.heap.size,5,none⟩=some (.int .i64 m0.call):=bM.cell 5
 have bM_f0 : World.frozen? w1 ⟨wS.heap.size,0,none⟩=false:=bM.frozen 0
 have bM_f1 : World.frozen? w1 ⟨wS.heap.size,1,none⟩=false:=bM.frozen 1
 have bM_f2 : World.frozen? w1 ⟨wS.heap.size,2,none⟩=false:=bM.frozen 2
 have bM_f3 : World.frozen? w1 ⟨wS.heap.size,3,none⟩=false:=bM.frozen 3
 have bM_f4 : World.frozen? w1 ⟨wS.heap.size,4,none⟩=false:=bM.frozen 4
 have bM_f5 : World.frozen? w1 ⟨wS.heap.size,5,none⟩=false:=bM.frozen 5
 have bM_l:=bM.lt
 go_upto_region 2 with fail
 clear bM_0 bM_1 bM_2 bM_3 bM_4 bM_5 bM_f0 bM_f1 bM_f2 bM_f3 bM_f4 bM_f5 bM_l
 have hS2 : ExtBut (fun b=>b=wS.heap.size∨False) w1 (World.setCell (World.setCell (World.setCell (World.setCell (World.setCell (World.setCell w1 ⟨wS.heap.size,0,none⟩ (.slice v_ba m1.mem.al.length v_bac)) ⟨wS.heap.size,1,none⟩ (.int .i64 m1.mem.next)) ⟨wS.heap.size,2,none⟩ (.slice v_bk m1.stks.length v_bkc)) ⟨wS.heap.size,3,none⟩ (.slice v_br m1.run.length v_brc)) ⟨wS.heap.size,4,none⟩ (.int .i64 m1.tag)) ⟨wS.heap.size,5,none⟩ (.int .i64 m1.call)):=by (repeat' with_reducible first | exact ExtBut.refl _ _ | refine ExtBut.dr ?_ | refine ExtBut.sc ?_ ?_ | fail) <;> dsimp only <;> omega
 replace bM:=(Box.setL (Box.setL (Box.setL (Box.setL (Box.setL (Box.setL bM 0 (.slice v_ba m1.mem.al.length v_bac)) 1 (.int .i64 m1.mem.next)) 2 (.slice v_bk m1.stks.length v_bkc)) 3 (.slice v_br m1.run.length v_brc)) 4 (.int .i64 m1.tag)) 5 (.int .i64 m1.call))
 simp only [List.set_cons_zero,List.set_cons_succ] at bM
 replace bP:=(Box.other (Box.other (Box.other (Box.other (Box.other (Box.other bP (p:=⟨wS.heap.size,0,none⟩) (ne_bM_bP.out) (.slice v_ba m1.mem.al.length v_bac)) (p:=⟨wS.heap.size,1,none⟩) (ne_bM_bP.out) (.int .i64 m1.mem.next)) (p:=⟨wS.heap.size,2,none⟩) (ne_bM_bP.out) (.slice v_bk m1.stks.length v_bkc)) (p:=⟨wS.heap.size,3,none⟩) (ne_bM_bP.out) (.slice v_br m1.run.length v_brc)) (p:=⟨wS.heap.size,4,none⟩) (ne_bM_bP.out) (.int .i64 m1.tag)) (p:=⟨wS.heap.size,5,none⟩) (ne_bM_bP.out) (.int .i64 m1.call))
 replace bN:=(Box.other (Box.other (Box.other (Box.other (Box.other (Box.other bN (p:=⟨wS.heap.size,0,none⟩) (ne_bM_bN.out) (.slice v_ba m1.mem.al.length v_bac)) (p:=⟨wS.heap.size,1,none⟩) (ne_bM_bN.out) (.int .i64 m1.mem.next)) (p:=⟨wS.heap.size,2,none⟩) (ne_bM_bN.out) (.slice v_bk m1.stks.length v_bkc)) (p:=⟨wS.heap.size,3,none⟩) (ne_bM_bN.out) (.slice v_br m1.run.length v_brc)) (p:=⟨wS.heap.size,4,none⟩) (ne_bM_bN.out) (.int .i64 m1.tag)) (p:=⟨wS.heap.size,5,none⟩) (ne_bM_bN.out) (.int .i64 m1.call))
 obtain ⟨w2s,hw2⟩ : ∃ z,(World.setCell (World.setCell (World.setCell (World.setCell (World.setCell (World.setCell w1 ⟨wS.heap.size,0,none⟩ (.slice v_ba m1.mem.al.length v_bac)) ⟨wS.heap.size,1,none⟩ (.int .i64 m1.mem.next)) ⟨wS.heap.size,2,none⟩ (.slice v_bk m1.stks.length v_bkc)) ⟨wS.heap.size,3,none⟩ (.slice v_br m1.run.length v_brc)) ⟨wS.heap.size,4,none⟩ (.int .i64 m1.tag)) ⟨wS.heap.size,5,none⟩ (.int .i64 m1.call))=z:=⟨_,rfl⟩
 rw [hw2] at hS2 bM bP bN ⊢
 clear hw2
 have hF2:=ExtBut.ext hF1 hS2 (fun b h=>by rcases h with h | h;(rw [h];exact lowbM.out);exact h.elim)
 replace Gb:=Lib.hid (Fq.but Gb.out hS2 (fun b h _ h2=>by rcases h2 with h2 | h2;exact h.1 h2;exact h2))
 clear hS2
 obtain ⟨bM_0,bM_1,bM_2,bM_3,bM_4,bM_5,bM_l⟩:=bM.c6
 obtain ⟨bN_0,bN_1,bN_2,bN_l⟩:=bN.c3
 go_wp2_with fail
 clear bM_0 bM_1 bM_2 bM_3 bM_4 bM_5 bM_l bN_0 bN_1 bN_2 bN_l
 have ltbM:=Lib.hid bM.lt
 refine (monitor_Retag 0 0 tn (l.length : Int) 1 (hp.out.ext hF2) (by unfold u8B;decide) Gb.out.read.1 (i64_of_ok k1.out) Gb.out.read.2.1 Gb.out.read.2.2).mono ?_
 rintro e w3 ⟨vt,rfl,fM,hE3⟩
 replace bM:=bM.ext hE3
 replace bP:=bP.ext hE3
 replace bN:=bN.ext hE3
 replace Gb:=Lib.hid (Fq.ext Gb.out hE3)
 have hF3:=Ext.trans hF2 hE3
 rw [c2.out] at fM ⊢
 try dsimp only [Ptr.val] at fM ⊢
 obtain ⟨csa,css,csr,rfl,qc⟩:=FrMon.parts fM
 clear fM
 obtain ⟨v_ca,v_cac,rfl,-⟩:=(qc.read).1.form
 obtain ⟨v_ck,v_ckc,rfl,-⟩:=(qc.read).2.1.form
 obtain ⟨v_cr,v_crc,rfl,-⟩:=(qc.read).2.2.form
 try dsimp only at qc ⊢
 have Gc:=Lib.hid (Fq.mono (S':=(fun b=>b≠wS.heap.size∧True)) qc (fun b h1 _=>by have gbM:=ltbM.out;exact ⟨by omega,trivial⟩))
 clear qc ltbM
 have bM_0 : World.cell? w3 ⟨wS.heap.size,0,none⟩=some (.slice v_ba m1.mem.al.length v_bac):=bM.cell 0
 have bM_1 : World.cell? w3 ⟨wS.heap.size,1,none⟩=some (.int .i64 m1.mem.next):=bM.cell 1
 have bM_2 : World.cell? w3 ⟨wS.heap.size,2,none⟩=some (.slice v_bk m1.stks.length v_bkc):=bM.cell 2
 have bM_3 : World.cell? w3 ⟨wS.heap.size,3,none⟩=some (.slice v_br m1.run.length v_brc):=bM.cell 3
 have bM_4 : World.cell? w3 ⟨wS.heap.size,4,none⟩=some (.int .i64 m1.tag):=bM.cell 4
 have bM_5 : World.cell? w3 ⟨wS.heap.size,5,none⟩=some (.int .i64 m1.call):=bM.cell 5
 have bM_f0 : World.frozen? w3 ⟨wS.heap.size,0,none⟩=false:=bM.frozen 0
 have bM_f1 : World.frozen? w3 ⟨wS.heap.size,1,none⟩=false:=bM.frozen 1
 have bM_f2 : World.frozen? w3 ⟨wS.heap.size,2,none⟩=false:=bM.frozen 2
 have bM_f3 : World.frozen? w3 ⟨wS.heap.size,3,none⟩=false:=bM.frozen 3
 have bM_f4 : World.frozen? w3 ⟨wS.heap.size,4,none⟩=false:=bM.frozen 4
 have bM_f5 : World.frozen? w3 ⟨wS.heap.size,5,none⟩=false:=bM.frozen 5
 have bM_l:=bM.lt
 go_upto_region 3 with fail
 clear bM_0 bM_1 bM_2 bM_3 bM_4 bM_5 bM_f0 bM_f1 bM_f2 bM_f3 bM_f4 bM_f5 bM_l
 have hzs : ((World.setCell (World.setCell (World.setCell (World.setCell (World.setCell (World.setCell w3 ⟨wS.heap.size,0,none⟩ (.slice v_ca m2.mem.al.length v_cac)) ⟨wS.heap.size,1,none⟩ (.int .i64 m2.mem.next)) ⟨wS.heap.size,2,none⟩ (.slice v_ck m2.stks.length v_ckc)) ⟨wS.heap.size,3,none⟩ (.slice v_cr m2.run.length v_crc)) ⟨wS.heap.size,4,none⟩ (.int .i64 m2.tag)) ⟨wS.heap.size,5,none⟩ (.int .i64 m2.call))).heap.size=w3.heap.size:=by simp
 have hS4 : ExtBut (fun b=>b=wS.heap.size∨False) w3 (World.setCell (World.setCell (World.setCell (World.setCell (World.setCell (World.setCell w3 ⟨wS.heap.size,0,none⟩ (.slice v_ca m2.mem.al.length v_cac)) ⟨wS.heap.size,1,none⟩ (.int .i64 m2.mem.next)) ⟨wS.heap.size,2,none⟩ (.slice v_ck m2.stks.length v_ckc)) ⟨wS.heap.size,3,none⟩ (.slice v_cr m2.run.length v_crc)) ⟨wS.heap.size,4,none⟩ (.int .i64 m2.tag)) ⟨wS.heap.size,5,none⟩ (.int .i64 m2.call)):=by (repeat' with_reducible first | exact ExtBut.refl _ _ | refine ExtBut.dr ?_ | refine ExtBut.sc ?_ ?_ | fail) <;> dsimp only <;> omega
 replace bM:=(Box.setL (Box.setL (Box.setL (Box.setL (Box.setL (Box.setL bM 0 (.slice v_ca m2.mem.al.length v_cac)) 1 (.int .i64 m2.mem.next)) 2 (.slice v_ck m2.stks.length v_ckc)) 3 (.slice v_cr m2.run.length v_crc)) 4 (.int .i64 m2.tag)) 5 (.int .i64 m2.call))
 simp only [List.set_cons_zero,List.set_cons_succ] at bM
 replace bP:=(Box.other (Box.other (Box.other (Box.other (Box.other (Box.other bP (p:=⟨wS.heap.size,0,none⟩) (ne_bM_bP.out) (.slice v_ca m2.mem.al.length v_cac)) (p:=⟨wS.heap.size,1,none⟩) (ne_bM_bP.out) (.int .i64 m2.mem.next)) (p:=⟨wS.heap.size,2,none⟩) (ne_bM_bP.out) (.slice v_ck m2.stks.length v_ckc)) (p:=⟨wS.heap.size,3,none⟩) (ne_bM_bP.out) (.slice v_cr m2.run.length v_crc)) (p:=⟨wS.heap.size,4,none⟩) (ne_bM_bP.out) (.int .i64 m2.tag)) (p:=⟨wS.heap.size,5,none⟩) (ne_bM_bP.out) (.int .i64 m2.call))
 replace bN:=(Box.other (Box.other (Box.other (Box.other (Box.other (Box.other bN (p:=⟨wS.heap.size,0,none⟩) (ne_bM_bN.out) (.slice v_ca m2.mem.al.length v_cac)) (p:=⟨wS.heap.size,1,none⟩) (ne_bM_bN.out) (.int .i64 m2.mem.next)) (p:=⟨wS.heap.size,2,none⟩) (ne_bM_bN.out) (.slice v_ck m2.stks.length v_ckc)) (p:=⟨wS.heap.size,3,none⟩) (ne_bM_bN.out) (.slice v_cr m2.run.length v_crc)) (p:=⟨wS.heap.size,4,none⟩) (ne_bM_bN.out) (.int .i64 m2.tag)) (p:=⟨wS.heap.size,5,none⟩) (ne_bM_bN.out) (.int .i64 m2.call))
 obtain ⟨w4s,hw4⟩ : ∃ z,(World.setCell (World.setCell (World.setCell (World.setCell (World.setCell (World.setCell w3 ⟨wS.heap.size,0,none⟩ (.slice v_ca m2.mem.al.length v_cac)) ⟨wS.heap.size,1,none⟩ (.int .i64 m2.mem.next)) ⟨wS.heap.size,2,none⟩ (.slice v_ck m2.stks.length v_ckc)) ⟨wS.heap.size,3,none⟩ (.slice v_cr m2.run.length v_crc)) ⟨wS.heap.size,4,none⟩ (.int .i64 m2.tag)) ⟨wS.heap.size,5,none⟩ (.int .i64 m2.call))=z:=⟨_,rfl⟩
 rw [hw4] at hzs hS4 bM bP bN ⊢
 clear hw4
 have hF4:=ExtBut.ext hF3 hS4 (fun b h=>by rcases h with h | h;(rw [h];exact lowbM.out);exact h.elim)
 replace Gb:=Lib.hid (Fq.but Gb.out hS4 (fun b h _ h2=>by rcases h2 with h2 | h2;exact h.1 h2;exact h2))
 replace Gc:=Lib.hid (Fq.but Gc.out hS4 (fun b h _ h2=>by rcases h2 with h2 | h2;exact h.1 h2;exact h2))
 clear hS4
 have ne_bM_bO : Hid (wS.heap.size≠w3.heap.size):=Hid.mk (by have hz9:=hzs;have h9:=bM.lt;omega)
 have bO:=Box.new w4s 26 #[.int .i64 0,.int .i64 0,.int .i64 t]
 rw [hzs] at bO
 have hza : (World.alloc w4s (.cells #[.int .i64 0,.int .i64 0,.int .i64 t] 26)).heap.size=w3.heap.size+1:=by rw [World.size_alloc,hzs]
 have hx5 : Ext w4s (World.alloc w4s (.cells #[.int .i64 0,.int .i64 0,.int .i64 t] 26)):=(Ext.refl _).alloc _
 obtain ⟨w5b,hw5⟩ : ∃ z,World.alloc w4s (.cells #[.int .i64 0,.int .i64 0,.int .i64 t] 26)=z:=⟨_,rfl⟩
 rw [hw5] at bO hx5 hza ⊢
 clear hw5
 have hzb0:=hza
 clear hza
 replace bM:=bM.ext hx5
 replace bP:=bP.ext hx5
 replace bN:=bN.ext hx5
 replace Gb:=Lib.hid (Fq.ext Gb.out hx5)
 replace Gc:=Lib.hid (Fq.ext Gc.out hx5)
 have hF6:=Ext.trans hF4 hx5
 clear hzs hzb0
 clear Gb
 have q3 : ((m2.stks.length : Int) != 1)=false:=by rw [c3.out];rfl
 obtain ⟨bM_0,bM_1,bM_2,bM_3,bM_4,bM_5,bM_l⟩:=bM.c6
 go_wp2_with fail
 clear bM_0 bM_1 bM_2 bM_3 bM_4 bM_5 bM_l
 have ltbM:=Lib.hid bM.lt
 refine (guard_Check Gc.out.read.2.2).mono ?_
 rintro e w7 ⟨rfl,rfl⟩
 rw [runErr_ok hrk.out]
 clear ltbM
 clear q3
 go_upto_region 5 with fail
 obtain ⟨kb,ko,sv,hv_ck,hkb,hk0,hk1,hSt⟩:=Kts.cell Gc.out.read.2.1 (i:=0) (x:=⟨0,C⟩) (by rw [c3.out];rfl)
 subst hv_ck
 have s0 : World.cell? w5b ⟨kb,ko,none⟩=some (.int .i64 0):=by simpa using hk0
 have s1 : World.cell? w5b ⟨kb,ko+1,none⟩=some sv:=by simpa using hk1
 clear hk0 hk1
 have rr:=Lib.hid Gc.out.read;replace hSt:=Lib.hid hSt
 have cM_2 : World.cell? w5b ⟨wS.heap.size,2,none⟩=some (.slice (some ⟨kb,ko,none⟩) m2.stks.length v_ckc):=bM.cell 2
 have cM_3 : World.cell? w5b ⟨wS.heap.size,3,none⟩=some (.slice v_cr m2.run.length v_crc):=bM.cell 3
 refine wp_region_go (L:=[Pr.eq (.pointer (some ⟨wS.heap.size,2,none⟩)),Pr.eq (.slice (some ⟨kb,ko,none⟩) m2.stks.length v_ckc),Pr.eq (.pointer (some ⟨kb,ko,none⟩)),Pr.eq (.agg #[.int .i64 0,sv]),Pr.eq (.pointer (some ⟨wS.heap.size,3,none⟩)),Pr.eq (.slice v_cr m2.run.length v_crc),(PrLenT l.length),(PrLenT l.length),(PrLen l.length),Pr.eq (.int .i64 0),(PrLen l.length),Pr.eq (.int .i64 0)]) (by kernel_rfl) (by kernel_rfl) ?_ ?_
 ·refine ⟨?_,?_,?_,?_,?_,?_,?_,?_,?_,?_,?_,?_,trivial⟩
  ·intro a w hE hd ho
   refine .inl ⟨rfl,?_⟩
   intro K hK
   have hF : Ext w5b w:=Ext.trans ((Ext.refl _).drew) hE
   have e4 : a.eval (.tmp 4) = .pointer (some ⟨wS.heap.size,0,none⟩):=ho 4 (by kernel_rfl)
   rw [eval_tmp] at e4
   clear s0 s1 cM_2 cM_3
   clear hd ho
   replace hK:=Lib.hid hK
   go_simp
   exact hK.out _ _ rfl (Ext.refl _)
  ·intro a w hE hd ho
   refine .inl ⟨rfl,?_⟩
   intro K hK
   have hF : Ext w5b w:=Ext.trans ((Ext.refl _).drew) hE
   have e64 : a.eval (.tmp 64) = .pointer (some ⟨wS.heap.size,2,none⟩):=hd 0 (by kernel_rfl)
   rw [eval_tmp] at e64
   have cM_2w:=Ext.cell hF cM_2
   clear s0 s1 cM_2 cM_3
   clear hd ho
   replace hK:=Lib.hid hK
   go_simp
   exact hK.out _ _ rfl (Ext.refl _)
  ·intro a w hE hd ho
   refine .inl ⟨rfl,?_⟩
   intro K hK
   have hF : Ext w5b w:=Ext.trans ((Ext.refl _).drew) hE
   have e65 : a.eval (.tmp 65) = .slice (some ⟨kb,ko,none⟩) m2.stks.length v_ckc:=hd 1 (by kernel_rfl)
   rw [eval_tmp] at e65
   clear s0 s1 cM_2 cM_3
   have hlt9 : 0 < m2.stks.length:=by rw [c3.out];simp
   have hlt8 : decide (0 < m2.stks.length)=true:=decide_eq_true hlt9
   clear hd ho
   replace hK:=Lib.hid hK
   go_simp
   exact hK.out _ _ rfl (Ext.refl _)
  ·intro a w hE hd ho
   refine .inl ⟨rfl,?_⟩
   intro K hK
   have hF : Ext w5b w:=Ext.trans ((Ext.refl _).drew) hE
   have e66 : a.eval (.tmp 66) = .pointer (some ⟨kb,ko,none⟩):=hd 2 (by kernel_rfl)
   rw [eval_tmp] at e66
   have s0w:=Ext.cell hF s0
   have s1w:=Ext.cell hF s1
   clear s0 s1 cM_2 cM_3
   clear hd ho
   replace hK:=Lib.hid hK
   go_simp
   exact hK.out _ _ rfl (Ext.refl _)
  ·intro a w hE hd ho
   refine .inl ⟨rfl,?_⟩
   intro K hK
   have hF : Ext w5b w:=Ext.trans ((Ext.refl _).drew) hE
   have e4 : a.eval (.tmp 4) = .pointer (some ⟨wS.heap.size,0,none⟩):=ho 4 (by kernel_rfl)
   rw [eval_tmp] at e4
   clear s0 s1 cM_2 cM_3
   clear hd ho
   replace hK:=Lib.hid hK
   go_simp
   exact hK.out _ _ rfl (Ext.refl _)
  ·intro a w hE hd ho
   refine .inl ⟨rfl,?_⟩
   intro K hK
   have hF : Ext w5b w:=Ext.trans ((Ext.refl _).drew) hE
   have e68 : a.eval (.tmp 68) = .pointer (some ⟨wS.heap.size,3,none⟩):=hd 4 (by kernel_rfl)
   rw [eval_tmp] at e68
   have cM_3w:=Ext.cell hF cM_3
   clear s0 s1 cM_2 cM_3
   clear hd ho
   replace hK:=Lib.hid hK
   go_simp
   exact hK.out _ _ rfl (Ext.refl _)
  ·intro a w hE hd ho
   refine .inl ⟨rfl,?_⟩
   intro K hK
   have hF : Ext w5b w:=Ext.trans ((Ext.refl _).drew) hE
   have e67 : a.eval (.tmp 67) = .agg #[.int .i64 0,sv]:=hd 3 (by kernel_rfl)
   rw [eval_tmp] at e67
   have e69 : a.eval (.tmp 69) = .slice v_cr m2.run.length v_crc:=hd 5 (by kernel_rfl)
   rw [eval_tmp] at e69
   clear s0 s1 cM_2 cM_3
   clear hd ho
   replace hK:=Lib.hid hK
   go_simp
   refine (dealloc_Protects (num:=0) (l:=C) (run:=m2.run) (hSt.out.ext hF) (rr.out.2.2.ext hF)).mono ?_
   rintro e wz ⟨vL,rfl,oL,hZ⟩
   rw [c4.out] at oL ⊢
   dsimp only at oL ⊢
   obtain ⟨za,zc,rfl,-⟩:=oL.sl.slice_form
   rw [c5.out]
   go_simp
   exact hK.out _ _ ⟨_,_,rfl⟩ hZ
  ·intro a w hE hd ho
   refine .inl ⟨rfl,?_⟩
   intro K hK
   have hF : Ext w5b w:=Ext.trans ((Ext.refl _).drew) hE
   obtain ⟨ya70,yc70,e70⟩ : ∃ a9 c9,a.eval (.tmp 70) = .tuple #[.slice a9 l.length c9,.int .i64 0]:=hd 6 (by kernel_rfl)
   rw [eval_tmp] at e70
   clear s0 s1 cM_2 cM_3
   clear hd ho
   replace hK:=Lib.hid hK
   go_simp
   exact hK.out _ _ ⟨_,_,rfl⟩ (Ext.refl _)
  ·intro a w hE hd ho
   refine .inl ⟨rfl,?_⟩
   intro K hK
   have hF : Ext w5b w:=Ext.trans ((Ext.refl _).drew) hE
   obtain ⟨ya63,yc63,e63⟩ : ∃ a9 c9,a.eval (.tmp 63) = .tuple #[.slice a9 l.length c9,.int .i64 0]:=hd 7 (by kernel_rfl)
   rw [eval_tmp] at e63
   clear s0 s1 cM_2 cM_3
   clear hd ho
   replace hK:=Lib.hid hK
   go_simp
   exact hK.out _ _ ⟨_,_,rfl⟩ (Ext.refl _)
  ·intro a w hE hd ho
   refine .inl ⟨rfl,?_⟩
   intro K hK
   have hF : Ext w5b w:=Ext.trans ((Ext.refl _).drew) hE
   obtain ⟨ya63,yc63,e63⟩ : ∃ a9 c9,a.eval (.tmp 63) = .tuple #[.slice a9 l.length c9,.int .i64 0]:=hd 7 (by kernel_rfl)
   rw [eval_tmp] at e63
   clear s0 s1 cM_2 cM_3
   clear hd ho
   replace hK:=Lib.hid hK
   go_simp
   exact hK.out _ _ rfl (Ext.refl _)
  ·intro a w hE hd ho
   refine .inl ⟨rfl,?_⟩
   intro K hK
   have hF : Ext w5b w:=Ext.trans ((Ext.refl _).drew) hE
   obtain ⟨ya71,yc71,e71⟩ : ∃ a9 c9,a.eval (.tmp 71) = .slice a9 l.length c9:=hd 8 (by kernel_rfl)
   rw [eval_tmp] at e71
   clear s0 s1 cM_2 cM_3
   clear hd ho
   replace hK:=Lib.hid hK
   go_simp
   exact hK.out _ _ ⟨_,_,rfl⟩ (Ext.refl _)
  ·intro a w hE hd ho
   refine .inl ⟨rfl,?_⟩
   intro K hK
   have hF : Ext w5b w:=Ext.trans ((Ext.refl _).drew) hE
   have e72 : a.eval (.tmp 72) = .int .i64 0:=hd 9 (by kernel_rfl)
   rw [eval_tmp] at e72
   clear s0 s1 cM_2 cM_3
   clear hd ho
   replace hK:=Lib.hid hK
   go_simp
   exact hK.out _ _ rfl (Ext.refl _)
 ·intro vals wq hE hv
  have hF : Ext w5b wq:=Ext.trans ((Ext.refl _).drew) hE
  obtain ⟨ka9,kc9,e14⟩:=hv 10 (by decide)
  have e15 : vals 11 = .int .i64 0:=hv 11 (by decide)
  clear hv hE rr hSt s0 s1 cM_2 cM_3
  simp only [putAll]
  go_simp
  try rw [e14,e15]
  clear e14 e15
  obtain ⟨wk,hwk⟩ : ∃ z,wq=z:=⟨_,rfl⟩
  rw [hwk] at hF ⊢
  clear hwk
  replace bM:=bM.ext hF
  replace bP:=bP.ext hF
  replace bN:=bN.ext hF
  replace bO:=bO.ext hF
  replace Gc:=Lib.hid (Fq.ext Gc.out hF)
  have hF7:=Ext.trans hF6 hF
  obtain ⟨bM_0,bM_1,bM_2,bM_3,bM_4,bM_5,bM_l⟩:=bM.c6
  obtain ⟨bP_0,bP_1,bP_2,bP_l⟩:=bP.c3
  go_wp2_with fail
  clear bM_0 bM_1 bM_2 bM_3 bM_4 bM_5 bM_l bP_0 bP_1 bP_2 bP_l
  have ltbM:=Lib.hid bM.lt
  refine (monitor_End 0 Gc.out.read.1 (i64_of_ok k2.out) Gc.out.read.2.1 Gc.out.read.2.2).mono ?_
  rintro e w8 ⟨vt,rfl,fM,hE8⟩
  replace bM:=bM.ext hE8
  replace bP:=bP.ext hE8
  replace bN:=bN.ext hE8
  replace bO:=bO.ext hE8
  replace Gc:=Lib.hid (Fq.ext Gc.out hE8)
  have hF8:=Ext.trans hF7 hE8
  rw [c6.out] at fM ⊢
  try dsimp only [Ptr.val] at fM ⊢
  obtain ⟨dsa,dss,dsr,rfl,qd⟩:=FrMon.parts fM
  clear fM
  obtain ⟨v_da,v_dac,rfl,-⟩:=(qd.read).1.form
  obtain ⟨v_dk,v_dkc,rfl,-⟩:=(qd.read).2.1.form
  obtain ⟨v_dr,v_drc,rfl,-⟩:=(qd.read).2.2.form
  try dsimp only at qd ⊢
  have Gd:=Lib.hid (Fq.mono (S':=(fun b=>b≠wS.heap.size∧True)) qd (fun b h1 _=>by have gbM:=ltbM.out;exact ⟨by omega,trivial⟩))
  clear qd ltbM
  obtain ⟨bM_0,bM_1,bM_2,bM_3,bM_4,bM_5,bM_l⟩:=bM.c6
  obtain ⟨bP_0,bP_1,bP_2,bP_l⟩:=bP.c3
  go_wp2_with fail
  clear bM_0 bM_1 bM_2 bM_3 bM_4 bM_5 bM_l bP_0 bP_1 bP_2 bP_l
  have ne_bM_bD : Hid (wS.heap.size≠w8.heap.size):=Hid.mk (by have h9:=bM.lt;omega)
  have bD:=Box.new w8 35 #[.slice v_da Mon.zero.mem.al.length v_dac,.int .i64 Mon.zero.mem.next,.slice v_dk Mon.zero.stks.length v_dkc,.slice v_dr Mon.zero.run.length v_drc,.int .i64 Mon.zero.tag,.int .i64 Mon.zero.call]
  have hza : (World.alloc w8 (.cells #[.slice v_da Mon.zero.mem.al.length v_dac,.int .i64 Mon.zero.mem.next,.slice v_dk Mon.zero.stks.length v_dkc,.slice v_dr Mon.zero.run.length v_drc,.int .i64 Mon.zero.tag,.int .i64 Mon.zero.call] 35)).heap.size=w8.heap.size+1:=by rw [World.size_alloc]
  have hx9 : Ext w8 (World.alloc w8 (.cells #[.slice v_da Mon.zero.mem.al.length v_dac,.int .i64 Mon.zero.mem.next,.slice v_dk Mon.zero.stks.length v_dkc,.slice v_dr Mon.zero.run.length v_drc,.int .i64 Mon.zero.tag,.int .i64 Mon.zero.call] 35)):=(Ext.refl _).alloc _
  obtain ⟨w9b,hw9⟩ : ∃ z,World.alloc w8 (.cells #[.slice v_da Mon.zero.mem.al.length v_dac,.int .i64 Mon.zero.mem.next,.slice v_dk Mon.zero.stks.length v_dkc,.slice v_dr Mon.zero.run.length v_drc,.int .i64 Mon.zero.tag,.int .i64 Mon.zero.call] 35)=z:=⟨_,rfl⟩
  rw [hw9] at bD hx9 hza ⊢
  clear hw9
  have hzb0:=hza
  clear hza
  replace bM:=bM.ext hx9
  replace bP:=bP.ext hx9
  replace bN:=bN.ext hx9
  replace bO:=bO.ext hx9
  replace Gc:=Lib.hid (Fq.ext Gc.out hx9)
  replace Gd:=Lib.hid (Fq.ext Gd.out hx9)
  have hF10:=Ext.trans hF8 hx9
  clear hzb0
  have ltbM:=Lib.hid bM.lt
  refine (monitor_Store 0 0 1 Gc.out.read.1 (i64_of_ok k2.out) Gc.out.read.2.1 Gc.out.read.2.2 (hl.out.ext hF10)).mono ?_
  rintro e w11 ⟨vt,rfl,fM,hE11⟩
  replace bM:=bM.ext hE11
  replace bP:=bP.ext hE11
  replace bN:=bN.ext hE11
  replace bO:=bO.ext hE11
  replace bD:=bD.ext hE11
  replace Gc:=Lib.hid (Fq.ext Gc.out hE11)
  replace Gd:=Lib.hid (Fq.ext Gd.out hE11)
  have hF11:=Ext.trans hF10 hE11
  rw [c7.out] at fM ⊢
  try dsimp only [Ptr.val] at fM ⊢
  obtain ⟨esa,ess,esr,rfl,qe⟩:=FrMon.parts fM
  clear fM
  obtain ⟨v_ea,v_eac,rfl,-⟩:=(qe.read).1.form
  obtain ⟨v_ek,v_ekc,rfl,-⟩:=(qe.read).2.1.form
  obtain ⟨v_er,v_erc,rfl,-⟩:=(qe.read).2.2.form
  try dsimp only at qe ⊢
  have Ge:=Lib.hid (Fq.mono (S':=(fun b=>b≠wS.heap.size∧True)) qe (fun b h1 _=>by have gbM:=ltbM.out;exact ⟨by omega,trivial⟩))
  clear qe ltbM
  clear Gd
  clear Ge
  have q4 : ((l.length : Int) != (l.length : Int))=false:=bne_self_eq_false _
  obtain ⟨bM_0,bM_1,bM_2,bM_3,bM_4,bM_5,bM_l⟩:=bM.c6
  go_wp2_with fail
  clear bM_0 bM_1 bM_2 bM_3 bM_4 bM_5 bM_l
  have ne_bM_bE : Hid (wS.heap.size≠w11.heap.size):=Hid.mk (by have h9:=bM.lt;omega)
  have bE:=Box.new w11 35 #[.slice v_ea Mon.zero.mem.al.length v_eac,.int .i64 Mon.zero.mem.next,.slice v_ek Mon.zero.stks.length v_ekc,.slice v_er Mon.zero.run.length v_erc,.int .i64 Mon.zero.tag,.int .i64 Mon.zero.call]
  have hza : (World.alloc w11 (.cells #[.slice v_ea Mon.zero.mem.al.length v_eac,.int .i64 Mon.zero.mem.next,.slice v_ek Mon.zero.stks.length v_ekc,.slice v_er Mon.zero.run.length v_erc,.int .i64 Mon.zero.tag,.int .i64 Mon.zero.call] 35)).heap.size=w11.heap.size+1:=by rw [World.size_alloc]
  have hx12 : Ext w11 (World.alloc w11 (.cells #[.slice v_ea Mon.zero.mem.al.length v_eac,.int .i64 Mon.zero.mem.next,.slice v_ek Mon.zero.stks.length v_ekc,.slice v_er Mon.zero.run.length v_erc,.int .i64 Mon.zero.tag,.int .i64 Mon.zero.call] 35)):=(Ext.refl _).alloc _
  obtain ⟨w12b,hw12⟩ : ∃ z,World.alloc w11 (.cells #[.slice v_ea Mon.zero.mem.al.length v_eac,.int .i64 Mon.zero.mem.next,.slice v_ek Mon.zero.stks.length v_ekc,.slice v_er Mon.zero.run.length v_erc,.int .i64 Mon.zero.tag,.int .i64 Mon.zero.call] 35)=z:=⟨_,rfl⟩
  rw [hw12] at bE hx12 hza ⊢
  clear hw12
  have hzb0:=hza
  clear hza
  replace bM:=bM.ext hx12
  replace bP:=bP.ext hx12
  replace bN:=bN.ext hx12
  replace bO:=bO.ext hx12
  replace bD:=bD.ext hx12
  replace Gc:=Lib.hid (Fq.ext Gc.out hx12)
  have hF13:=Ext.trans hF11 hx12
  clear hzb0
  have ltbM:=Lib.hid bM.lt
  refine (monitor_Leave Gc.out.read.1 (i64_of_ok k2.out) Gc.out.read.2.1 Gc.out.read.2.2).mono ?_
  rintro e w14 ⟨vt,rfl,fM,hE14⟩
  replace bM:=bM.ext hE14
  replace bP:=bP.ext hE14
  replace bN:=bN.ext hE14
  replace bO:=bO.ext hE14
  replace bD:=bD.ext hE14
  replace bE:=bE.ext hE14
  replace Gc:=Lib.hid (Fq.ext Gc.out hE14)
  have hF14:=Ext.trans hF13 hE14
  rw [c8.out] at fM ⊢
  try dsimp only [Ptr.val] at fM ⊢
  obtain ⟨fsa,fss,fsr,rfl,qf⟩:=FrMon.parts fM
  clear fM
  obtain ⟨v_fa,v_fac,rfl,-⟩:=(qf.read).1.form
  obtain ⟨v_fk,v_fkc,rfl,-⟩:=(qf.read).2.1.form
  obtain ⟨v_fr,v_frc,rfl,-⟩:=(qf.read).2.2.form
  try dsimp only at qf ⊢
  have Gf:=Lib.hid (Fq.mono (S':=(fun b=>b≠wS.heap.size∧True)) qf (fun b h1 _=>by have gbM:=ltbM.out;exact ⟨by omega,trivial⟩))
  clear qf ltbM
  clear q4
  clear bD
  clear bE
  have bM_0 : World.cell? w14 ⟨wS.heap.size,0,none⟩=some (.slice v_ca m2.mem.al.length v_cac):=bM.cell 0
  have bM_1 : World.cell? w14 ⟨wS.heap.size,1,none⟩=some (.int .i64 m2.mem.next):=bM.cell 1
  have bM_2 : World.cell? w14 ⟨wS.heap.size,2,none⟩=some (.slice (some ⟨kb,ko,none⟩) m2.stks.length v_ckc):=bM.cell 2
  have bM_3 : World.cell? w14 ⟨wS.heap.size,3,none⟩=some (.slice v_cr m2.run.length v_crc):=bM.cell 3
  have bM_4 : World.cell? w14 ⟨wS.heap.size,4,none⟩=some (.int .i64 m2.tag):=bM.cell 4
  have bM_5 : World.cell? w14 ⟨wS.heap.size,5,none⟩=some (.int .i64 m2.call):=bM.cell 5
  have bM_f0 : World.frozen? w14 ⟨wS.heap.size,0,none⟩=false:=bM.frozen 0
  have bM_f1 : World.frozen? w14 ⟨wS.heap.size,1,none⟩=false:=bM.frozen 1
  have bM_f2 : World.frozen? w14 ⟨wS.heap.size,2,none⟩=false:=bM.frozen 2
  have bM_f3 : World.frozen? w14 ⟨wS.heap.size,3,none⟩=false:=bM.frozen 3
  have bM_f4 : World.frozen? w14 ⟨wS.heap.size,4,none⟩=false:=bM.frozen 4
  have bM_f5 : World.frozen? w14 ⟨wS.heap.size,5,none⟩=false:=bM.frozen 5
  have bM_l:=bM.lt
  go_upto_region 11 with fail
  clear bM_0 bM_1 bM_2 bM_3 bM_4 bM_5 bM_f0 bM_f1 bM_f2 bM_f3 bM_f4 bM_f5 bM_l
  have hS15 : ExtBut (fun b=>b=wS.heap.size∨False) w14 (World.setCell (World.setCell (World.setCell (World.setCell (World.setCell (World.setCell w14 ⟨wS.heap.size,0,none⟩ (.slice v_fa m3.mem.al.length v_fac)) ⟨wS.heap.size,1,none⟩ (.int .i64 m3.mem.next)) ⟨wS.heap.size,2,none⟩ (.slice v_fk m3.stks.length v_fkc)) ⟨wS.heap.size,3,none⟩ (.slice v_fr m3.run.length v_frc)) ⟨wS.heap.size,4,none⟩ (.int .i64 m3.tag)) ⟨wS.heap.size,5,none⟩ (.int .i64 m3.call)):=by (repeat' with_reducible first | exact ExtBut.refl _ _ | refine ExtBut.dr ?_ | refine ExtBut.sc ?_ ?_ | fail) <;> dsimp only <;> omega
  replace bM:=(Box.setL (Box.setL (Box.setL (Box.setL (Box.setL (Box.setL bM 0 (.slice v_fa m3.mem.al.length v_fac)) 1 (.int .i64 m3.mem.next)) 2 (.slice v_fk m3.stks.length v_fkc)) 3 (.slice v_fr m3.run.length v_frc)) 4 (.int .i64 m3.tag)) 5 (.int .i64 m3.call))
  simp only [List.set_cons_zero,List.set_cons_succ] at bM
  replace bP:=(Box.other (Box.other (Box.other (Box.other (Box.other (Box.other bP (p:=⟨wS.heap.size,0,none⟩) (ne_bM_bP.out) (.slice v_fa m3.mem.al.length v_fac)) (p:=⟨wS.heap.size,1,none⟩) (ne_bM_bP.out) (.int .i64 m3.mem.next)) (p:=⟨wS.heap.size,2,none⟩) (ne_bM_bP.out) (.slice v_fk m3.stks.length v_fkc)) (p:=⟨wS.heap.size,3,none⟩) (ne_bM_bP.out) (.slice v_fr m3.run.length v_frc)) (p:=⟨wS.heap.size,4,none⟩) (ne_bM_bP.out) (.int .i64 m3.tag)) (p:=⟨wS.heap.size,5,none⟩) (ne_bM_bP.out) (.int .i64 m3.call))
  replace bN:=(Box.other (Box.other (Box.other (Box.other (Box.other (Box.other bN (p:=⟨wS.heap.size,0,none⟩) (ne_bM_bN.out) (.slice v_fa m3.mem.al.length v_fac)) (p:=⟨wS.heap.size,1,none⟩) (ne_bM_bN.out) (.int .i64 m3.mem.next)) (p:=⟨wS.heap.size,2,none⟩) (ne_bM_bN.out) (.slice v_fk m3.stks.length v_fkc)) (p:=⟨wS.heap.size,3,none⟩) (ne_bM_bN.out) (.slice v_fr m3.run.length v_frc)) (p:=⟨wS.heap.size,4,none⟩) (ne_bM_bN.out) (.int .i64 m3.tag)) (p:=⟨wS.heap.size,5,none⟩) (ne_bM_bN.out) (.int .i64 m3.call))
  replace bO:=(Box.other (Box.other (Box.other (Box.other (Box.other (Box.other bO (p:=⟨wS.heap.size,0,none⟩) (ne_bM_bO.out) (.slice v_fa m3.mem.al.length v_fac)) (p:=⟨wS.heap.size,1,none⟩) (ne_bM_bO.out) (.int .i64 m3.mem.next)) (p:=⟨wS.heap.size,2,none⟩) (ne_bM_bO.out) (.slice v_fk m3.stks.length v_fkc)) (p:=⟨wS.heap.size,3,none⟩) (ne_bM_bO.out) (.slice v_fr m3.run.length v_frc)) (p:=⟨wS.heap.size,4,none⟩) (ne_bM_bO.out) (.int .i64 m3.tag)) (p:=⟨wS.heap.size,5,none⟩) (ne_bM_bO.out) (.int .i64 m3.call))
  obtain ⟨w15s,hw15⟩ : ∃ z,(World.setCell (World.setCell (World.setCell (World.setCell (World.setCell (World.setCell w14 ⟨wS.heap.size,0,none⟩ (.slice v_fa m3.mem.al.length v_fac)) ⟨wS.heap.size,1,none⟩ (.int .i64 m3.mem.next)) ⟨wS.heap.size,2,none⟩ (.slice v_fk m3.stks.length v_fkc)) ⟨wS.heap.size,3,none⟩ (.slice v_fr m3.run.length v_frc)) ⟨wS.heap.size,4,none⟩ (.int .i64 m3.tag)) ⟨wS.heap.size,5,none⟩ (.int .i64 m3.call))=z:=⟨_,rfl⟩
  rw [hw15] at hS15 bM bP bN bO ⊢
  clear hw15
  have hF15:=ExtBut.ext hF14 hS15 (fun b h=>by rcases h with h | h;(rw [h];exact lowbM.out);exact h.elim)
  replace Gc:=Lib.hid (Fq.but Gc.out hS15 (fun b h _ h2=>by rcases h2 with h2 | h2;exact h.1 h2;exact h2))
  replace Gf:=Lib.hid (Fq.but Gf.out hS15 (fun b h _ h2=>by rcases h2 with h2 | h2;exact h.1 h2;exact h2))
  clear hS15
  clear Gc
  obtain ⟨bM_0,bM_1,bM_2,bM_3,bM_4,bM_5,bM_l⟩:=bM.c6
  obtain ⟨bP_0,bP_1,bP_2,bP_l⟩:=bP.c3
  go_wp2_with fail
  clear bM_0 bM_1 bM_2 bM_3 bM_4 bM_5 bM_l bP_0 bP_1 bP_2 bP_l
  have ltbM:=Lib.hid bM.lt
  refine (monitor_Store 0 0 1 Gf.out.read.1 (i64_of_ok k3.out) Gf.out.read.2.1 Gf.out.read.2.2 (hl.out.ext hF15)).mono ?_
  rintro e w16 ⟨vt,rfl,fM,hE16⟩
  replace bM:=bM.ext hE16
  replace bP:=bP.ext hE16
  replace bN:=bN.ext hE16
  replace bO:=bO.ext hE16
  replace Gf:=Lib.hid (Fq.ext Gf.out hE16)
  have hF16:=Ext.trans hF15 hE16
  rw [c9.out] at fM ⊢
  try dsimp only [Ptr.val] at fM ⊢
  obtain ⟨gsa,gss,gsr,rfl,qg⟩:=FrMon.parts fM
  clear fM
  obtain ⟨v_ga,v_gac,rfl,-⟩:=(qg.read).1.form
  obtain ⟨v_gk,v_gkc,rfl,-⟩:=(qg.read).2.1.form
  obtain ⟨v_gr,v_grc,rfl,-⟩:=(qg.read).2.2.form
  try dsimp only at qg ⊢
  have Gg:=Lib.hid (Fq.mono (S':=(fun b=>b≠wS.heap.size∧True)) qg (fun b h1 _=>by have gbM:=ltbM.out;exact ⟨by omega,trivial⟩))
  clear qg ltbM
  have bM_0 : World.cell? w16 ⟨wS.heap.size,0,none⟩=some (.slice v_fa m3.mem.al.length v_fac):=bM.cell 0
  have bM_1 : World.cell? w16 ⟨wS.heap.size,1,none⟩=some (.int .i64 m3.mem.next):=bM.cell 1
  have bM_2 : World.cell? w16 ⟨wS.heap.size,2,none⟩=some (.slice v_fk m3.stks.length v_fkc):=bM.cell 2
  have bM_3 : World.cell? w16 ⟨wS.heap.size,3,none⟩=some (.slice v_fr m3.run.length v_frc):=bM.cell 3
  have bM_4 : World.cell? w16 ⟨wS.heap.size,4,none⟩=some (.int .i64 m3.tag):=bM.cell 4
  have bM_5 : World.cell? w16 ⟨wS.heap.size,5,none⟩=some (.int .i64 m3.call):=bM.cell 5
  have bM_f0 : World.frozen? w16 ⟨wS.heap.size,0,none⟩=false:=bM.frozen 0
  have bM_f1 : World.frozen? w16 ⟨wS.heap.size,1,none⟩=false:=bM.frozen 1
  have bM_f2 : World.frozen? w16 ⟨wS.heap.size,2,none⟩=false:=bM.frozen 2
  have bM_f3 : World.frozen? w16 ⟨wS.heap.size,3,none⟩=false:=bM.frozen 3
  have bM_f4 : World.frozen? w16 ⟨wS.heap.size,4,none⟩=false:=bM.frozen 4
  have bM_f5 : World.frozen? w16 ⟨wS.heap.size,5,none⟩=false:=bM.frozen 5
  have bM_l:=bM.lt
  go_upto_region 12 with fail
  clear bM_0 bM_1 bM_2 bM_3 bM_4 bM_5 bM_f0 bM_f1 bM_f2 bM_f3 bM_f4 bM_f5 bM_l
  have hS17 : ExtBut (fun b=>b=wS.heap.size∨False) w16 (World.setCell (World.setCell (World.setCell (World.setCell (World.setCell (World.setCell w16 ⟨wS.heap.size,0,none⟩ (.slice v_ga m4.mem.al.length v_gac)) ⟨wS.heap.size,1,none⟩ (.int .i64 m4.mem.next)) ⟨wS.heap.size,2,none⟩ (.slice v_gk m4.stks.length v_gkc)) ⟨wS.heap.size,3,none⟩ (.slice v_gr m4.run.length v_grc)) ⟨wS.heap.size,4,none⟩ (.int .i64 m4.tag)) ⟨wS.heap.size,5,none⟩ (.int .i64 m4.call)):=by (repeat' with_reducible first | exact ExtBut.refl _ _ | refine ExtBut.dr ?_ | refine ExtBut.sc ?_ ?_ | fail) <;> dsimp only <;> omega
  replace bM:=(Box.setL (Box.setL (Box.setL (Box.setL (Box.setL (Box.setL bM 0 (.slice v_ga m4.mem.al.length v_gac)) 1 (.int .i64 m4.mem.next)) 2 (.slice v_gk m4.stks.length v_gkc)) 3 (.slice v_gr m4.run.length v_grc)) 4 (.int .i64 m4.tag)) 5 (.int .i64 m4.call))
  simp only [List.set_cons_zero,List.set_cons_succ] at bM
  replace bP:=(Box.other (Box.other (Box.other (Box.other (Box.other (Box.other bP (p:=⟨wS.heap.size,0,none⟩) (ne_bM_bP.out) (.slice v_ga m4.mem.al.length v_gac)) (p:=⟨wS.heap.size,1,none⟩) (ne_bM_bP.out) (.int .i64 m4.mem.next)) (p:=⟨wS.heap.size,2,none⟩) (ne_bM_bP.out) (.slice v_gk m4.stks.length v_gkc)) (p:=⟨wS.heap.size,3,none⟩) (ne_bM_bP.out) (.slice v_gr m4.run.length v_grc)) (p:=⟨wS.heap.size,4,none⟩) (ne_bM_bP.out) (.int .i64 m4.tag)) (p:=⟨wS.heap.size,5,none⟩) (ne_bM_bP.out) (.int .i64 m4.call))
  replace bN:=(Box.other (Box.other (Box.other (Box.other (Box.other (Box.other bN (p:=⟨wS.heap.size,0,none⟩) (ne_bM_bN.out) (.slice v_ga m4.mem.al.length v_gac)) (p:=⟨wS.heap.size,1,none⟩) (ne_bM_bN.out) (.int .i64 m4.mem.next)) (p:=⟨wS.heap.size,2,none⟩) (ne_bM_bN.out) (.slice v_gk m4.stks.length v_gkc)) (p:=⟨wS.heap.size,3,none⟩) (ne_bM_bN.out) (.slice v_gr m4.run.length v_grc)) (p:=⟨wS.heap.size,4,none⟩) (ne_bM_bN.out) (.int .i64 m4.tag)) (p:=⟨wS.heap.size,5,none⟩) (ne_bM_bN.out) (.int .i64 m4.call))
  replace bO:=(Box.other (Box.other (Box.other (Box.other (Box.other (Box.other bO (p:=⟨wS.heap.size,0,none⟩) (ne_bM_bO.out) (.slice v_ga m4.mem.al.length v_gac)) (p:=⟨wS.heap.size,1,none⟩) (ne_bM_bO.out) (.int .i64 m4.mem.next)) (p:=⟨wS.heap.size,2,none⟩) (ne_bM_bO.out) (.slice v_gk m4.stks.length v_gkc)) (p:=⟨wS.heap.size,3,none⟩) (ne_bM_bO.out) (.slice v_gr m4.run.length v_grc)) (p:=⟨wS.heap.size,4,none⟩) (ne_bM_bO.out) (.int .i64 m4.tag)) (p:=⟨wS.heap.size,5,none⟩) (ne_bM_bO.out) (.int .i64 m4.call))
  obtain ⟨w17s,hw17⟩ : ∃ z,(World.setCell (World.setCell (World.setCell (World.setCell (World.setCell (World.setCell w16 ⟨wS.heap.size,0,none⟩ (.slice v_ga m4.mem.al.length v_gac)) ⟨wS.heap.size,1,none⟩ (.int .i64 m4.mem.next)) ⟨wS.heap.size,2,none⟩ (.slice v_gk m4.stks.length v_gkc)) ⟨wS.heap.size,3,none⟩ (.slice v_gr m4.run.length v_grc)) ⟨wS.heap.size,4,none⟩ (.int .i64 m4.tag)) ⟨wS.heap.size,5,none⟩ (.int .i64 m4.call))=z:=⟨_,rfl⟩
  rw [hw17] at hS17 bM bP bN bO ⊢
  clear hw17
  have hF17:=ExtBut.ext hF16 hS17 (fun b h=>by rcases h with h | h;(rw [h];exact lowbM.out);exact h.elim)
  replace Gf:=Lib.hid (Fq.but Gf.out hS17 (fun b h _ h2=>by rcases h2 with h2 | h2;exact h.1 h2;exact h2))
  replace Gg:=Lib.hid (Fq.but Gg.out hS17 (fun b h _ h2=>by rcases h2 with h2 | h2;exact h.1 h2;exact h2))
  clear hS17
  clear Gf
  obtain ⟨bM_0,bM_1,bM_2,bM_3,bM_4,bM_5,bM_l⟩:=bM.c6
  obtain ⟨bP_0,bP_1,bP_2,bP_l⟩:=bP.c3
  go_wp2_with fail
  clear bM_0 bM_1 bM_2 bM_3 bM_4 bM_5 bM_l bP_0 bP_1 bP_2 bP_l
  have ltbM:=Lib.hid bM.lt
  refine (monitor_Load 0 0 1 (l.length : Int) Gg.out.read.1 (i64_of_ok k4.out) Gg.out.read.2.1 Gg.out.read.2.2).mono ?_
  rintro e w18 ⟨vt,vl,rfl,fM,fL,hE18⟩
  replace bM:=bM.ext hE18
  replace bP:=bP.ext hE18
  replace bN:=bN.ext hE18
  replace bO:=bO.ext hE18
  replace Gg:=Lib.hid (Fq.ext Gg.out hE18)
  have hF18:=Ext.trans hF17 hE18
  rw [c10.out] at fM fL ⊢
  try dsimp only at fM fL ⊢
  obtain ⟨hsa,hss,hsr,rfl,qh⟩:=FrMon.parts fM
  clear fM
  obtain ⟨v_ha,v_hac,rfl,-⟩:=(qh.read).1.form
  obtain ⟨v_hk,v_hkc,rfl,-⟩:=(qh.read).2.1.form
  obtain ⟨v_hr,v_hrc,rfl,-⟩:=(qh.read).2.2.form
  try dsimp only at qh ⊢
  obtain ⟨lax,lac,rfl,-⟩:=fL.read.form
  have Gla:=Lib.hid (Fq.mono (S':=(fun b=>b≠wS.heap.size∧True)) fL (fun b h1 _=>⟨by have g9:=ltbM.out;omega,trivial⟩))
  clear fL
  have Gh:=Lib.hid (Fq.mono (S':=(fun b=>b≠wS.heap.size∧True)) qh (fun b h1 _=>by have gbM:=ltbM.out;exact ⟨by omega,trivial⟩))
  clear qh ltbM
  obtain ⟨bM_0,bM_1,bM_2,bM_3,bM_4,bM_5,bM_l⟩:=bM.c6
  obtain ⟨bO_0,bO_1,bO_2,bO_l⟩:=bO.c3
  go_wp2_with fail
  clear bM_0 bM_1 bM_2 bM_3 bM_4 bM_5 bM_l bO_0 bO_1 bO_2 bO_l
  have ne_bM_bH : Hid (wS.heap.size≠w18.heap.size):=Hid.mk (by have h9:=bM.lt;omega)
  have bH:=Box.new w18 35 #[.slice v_ha m4.mem.al.length v_hac,.int .i64 m4.mem.next,.slice v_hk m4.stks.length v_hkc,.slice v_hr m4.run.length v_hrc,.int .i64 m4.tag,.int .i64 m4.call]
  have hza : (World.alloc w18 (.cells #[.slice v_ha m4.mem.al.length v_hac,.int .i64 m4.mem.next,.slice v_hk m4.stks.length v_hkc,.slice v_hr m4.run.length v_hrc,.int .i64 m4.tag,.int .i64 m4.call] 35)).heap.size=w18.heap.size+1:=by rw [World.size_alloc]
  have hx19 : Ext w18 (World.alloc w18 (.cells #[.slice v_ha m4.mem.al.length v_hac,.int .i64 m4.mem.next,.slice v_hk m4.stks.length v_hkc,.slice v_hr m4.run.length v_hrc,.int .i64 m4.tag,.int .i64 m4.call] 35)):=(Ext.refl _).alloc _
  obtain ⟨w19b,hw19⟩ : ∃ z,World.alloc w18 (.cells #[.slice v_ha m4.mem.al.length v_hac,.int .i64 m4.mem.next,.slice v_hk m4.stks.length v_hkc,.slice v_hr m4.run.length v_hrc,.int .i64 m4.tag,.int .i64 m4.call] 35)=z:=⟨_,rfl⟩
  rw [hw19] at bH hx19 hza ⊢
  clear hw19
  have hzb0:=hza
  clear hza
  replace bM:=bM.ext hx19
  replace bP:=bP.ext hx19
  replace bN:=bN.ext hx19
  replace bO:=bO.ext hx19
  replace Gg:=Lib.hid (Fq.ext Gg.out hx19)
  replace Gh:=Lib.hid (Fq.ext Gh.out hx19)
  replace Gla:=Lib.hid (Fq.ext Gla.out hx19)
  have hF20:=Ext.trans hF18 hx19
  clear hzb0
  have ltbM:=Lib.hid bM.lt
  refine (monitor_Load 0 0 t (l.length : Int) Gg.out.read.1 (i64_of_ok k4.out) Gg.out.read.2.1 Gg.out.read.2.2).mono ?_
  rintro e w21 ⟨vt,vl,rfl,fM,fL,hE21⟩
  replace bM:=bM.ext hE21
  replace bP:=bP.ext hE21
  replace bN:=bN.ext hE21
  replace bO:=bO.ext hE21
  replace bH:=bH.ext hE21
  replace Gg:=Lib.hid (Fq.ext Gg.out hE21)
  replace Gh:=Lib.hid (Fq.ext Gh.out hE21)
  replace Gla:=Lib.hid (Fq.ext Gla.out hE21)
  have hF21:=Ext.trans hF20 hE21
  clear fL
  rw [c11.out] at fM ⊢
  try dsimp only [Ptr.val] at fM ⊢
  obtain ⟨isa,iss,isr,rfl,qi⟩:=FrMon.parts fM
  clear fM
  obtain ⟨v_ia,v_iac,rfl,-⟩:=(qi.read).1.form
  obtain ⟨v_ik,v_ikc,rfl,-⟩:=(qi.read).2.1.form
  obtain ⟨v_ir,v_irc,rfl,-⟩:=(qi.read).2.2.form
  try dsimp only at qi ⊢
  have Gi:=Lib.hid (Fq.mono (S':=(fun b=>b≠wS.heap.size∧True)) qi (fun b h1 _=>by have gbM:=ltbM.out;exact ⟨by omega,trivial⟩))
  clear qi ltbM
  clear Gh
  clear Gi
  clear bH
  clear bO
  go_wp2_with fail
  have ltbM:=Lib.hid bM.lt
  refine (ref27_SameCells_yes Gla.out.read (hl.out.ext hF21)).mono ?_
  rintro e w22 ⟨rfl,hE22⟩
  replace bM:=bM.ext hE22
  replace bP:=bP.ext hE22
  replace bN:=bN.ext hE22
  replace Gg:=Lib.hid (Fq.ext Gg.out hE22)
  replace Gla:=Lib.hid (Fq.ext Gla.out hE22)
  have hF22:=Ext.trans hF21 hE22
  clear ltbM
  clear Gla
  by_cases htn : tn=1
  ·skip
   subst htn
   obtain ⟨bM_0,bM_1,bM_2,bM_3,bM_4,bM_5,bM_l⟩:=bM.c6
   obtain ⟨bP_0,bP_1,bP_2,bP_l⟩:=bP.c3
   obtain ⟨bN_0,bN_1,bN_2,bN_l⟩:=bN.c3
   go_wp2_with fail
   clear bM_0 bM_1 bM_2 bM_3 bM_4 bM_5 bM_l bP_0 bP_1 bP_2 bP_l bN_0 bN_1 bN_2 bN_l
   have ltbM:=Lib.hid bM.lt
   refine (monitor_End 0 Gg.out.read.1 (i64_of_ok k4.out) Gg.out.read.2.1 Gg.out.read.2.2).mono ?_
   rintro e w23 ⟨vt,rfl,fM,hE23⟩
   replace bM:=bM.ext hE23
   replace bP:=bP.ext hE23
   replace bN:=bN.ext hE23
   replace Gg:=Lib.hid (Fq.ext Gg.out hE23)
   have hF23:=Ext.trans hF22 hE23
   rw [c13.out] at fM ⊢
   try dsimp only [Ptr.val] at fM ⊢
   obtain ⟨jsa,jss,jsr,rfl,qj⟩:=FrMon.parts fM
   clear fM
   obtain ⟨v_ja,v_jac,rfl,-⟩:=(qj.read).1.form
   obtain ⟨v_jk,v_jkc,rfl,-⟩:=(qj.read).2.1.form
   obtain ⟨v_jr,v_jrc,rfl,-⟩:=(qj.read).2.2.form
   try dsimp only at qj ⊢
   have Gj:=Lib.hid (Fq.mono (S':=(fun b=>b≠wS.heap.size∧True)) qj (fun b h1 _=>by have gbM:=ltbM.out;exact ⟨by omega,trivial⟩))
   clear qj ltbM
   have bM_0 : World.cell? w23 ⟨wS.heap.size,0,none⟩=some (.slice v_ga m4.mem.al.length v_gac):=bM.cell 0
   have bM_1 : World.cell? w23 ⟨wS.heap.size,1,none⟩=some (.int .i64 m4.mem.next):=bM.cell 1
   have bM_2 : World.cell? w23 ⟨wS.heap.size,2,none⟩=some (.slice v_gk m4.stks.length v_gkc):=bM.cell 2
   have bM_3 : World.cell? w23 ⟨wS.heap.size,3,none⟩=some (.slice v_gr m4.run.length v_grc):=bM.cell 3
   have bM_4 : World.cell? w23 ⟨wS.heap.size,4,none⟩=some (.int .i64 m4.tag):=bM.cell 4
   have bM_5 : World.cell? w23 ⟨wS.heap.size,5,none⟩=some (.int .i64 m4.call):=bM.cell 5
   have bM_f0 : World.frozen? w23 ⟨wS.heap.size,0,none⟩=false:=bM.frozen 0
   have bM_f1 : World.frozen? w23 ⟨wS.heap.size,1,none⟩=false:=bM.frozen 1
   have bM_f2 : World.frozen? w23 ⟨wS.heap.size,2,none⟩=false:=bM.frozen 2
   have bM_f3 : World.frozen? w23 ⟨wS.heap.size,3,none⟩=false:=bM.frozen 3
   have bM_f4 : World.frozen? w23 ⟨wS.heap.size,4,none⟩=false:=bM.frozen 4
   have bM_f5 : World.frozen? w23 ⟨wS.heap.size,5,none⟩=false:=bM.frozen 5
   have bM_l:=bM.lt
   go_upto_region 21 with fail
   clear bM_0 bM_1 bM_2 bM_3 bM_4 bM_5 bM_f0 bM_f1 bM_f2 bM_f3 bM_f4 bM_f5 bM_l
   have hS24 : ExtBut (fun b=>b=wS.heap.size∨False) w23 (World.setCell (World.setCell (World.setCell (World.setCell (World.setCell (World.setCell w23 ⟨wS.heap.size,0,none⟩ (.slice v_ja md.mem.al.length v_jac)) ⟨wS.heap.size,1,none⟩ (.int .i64 md.mem.next)) ⟨wS.heap.size,2,none⟩ (.slice v_jk md.stks.length v_jkc)) ⟨wS.heap.size,3,none⟩ (.slice v_jr md.run.length v_jrc)) ⟨wS.heap.size,4,none⟩ (.int .i64 md.tag)) ⟨wS.heap.size,5,none⟩ (.int .i64 md.call)):=by (repeat' with_reducible first | exact ExtBut.refl _ _ | refine ExtBut.dr ?_ | refine ExtBut.sc ?_ ?_ | fail) <;> dsimp only <;> omega
   replace bM:=(Box.setL (Box.setL (Box.setL (Box.setL (Box.setL (Box.setL bM 0 (.slice v_ja md.mem.al.length v_jac)) 1 (.int .i64 md.mem.next)) 2 (.slice v_jk md.stks.length v_jkc)) 3 (.slice v_jr md.run.length v_jrc)) 4 (.int .i64 md.tag)) 5 (.int .i64 md.call))
   simp only [List.set_cons_zero,List.set_cons_succ] at bM
   replace bP:=(Box.other (Box.other (Box.other (Box.other (Box.other (Box.other bP (p:=⟨wS.heap.size,0,none⟩) (ne_bM_bP.out) (.slice v_ja md.mem.al.length v_jac)) (p:=⟨wS.heap.size,1,none⟩) (ne_bM_bP.out) (.int .i64 md.mem.next)) (p:=⟨wS.heap.size,2,none⟩) (ne_bM_bP.out) (.slice v_jk md.stks.length v_jkc)) (p:=⟨wS.heap.size,3,none⟩) (ne_bM_bP.out) (.slice v_jr md.run.length v_jrc)) (p:=⟨wS.heap.size,4,none⟩) (ne_bM_bP.out) (.int .i64 md.tag)) (p:=⟨wS.heap.size,5,none⟩) (ne_bM_bP.out) (.int .i64 md.call))
   replace bN:=(Box.other (Box.other (Box.other (Box.other (Box.other (Box.other bN (p:=⟨wS.heap.size,0,none⟩) (ne_bM_bN.out) (.slice v_ja md.mem.al.length v_jac)) (p:=⟨wS.heap.size,1,none⟩) (ne_bM_bN.out) (.int .i64 md.mem.next)) (p:=⟨wS.heap.size,2,none⟩) (ne_bM_bN.out) (.slice v_jk md.stks.length v_jkc)) (p:=⟨wS.heap.size,3,none⟩) (ne_bM_bN.out) (.slice v_jr md.run.length v_jrc)) (p:=⟨wS.heap.size,4,none⟩) (ne_bM_bN.out) (.int .i64 md.tag)) (p:=⟨wS.heap.size,5,none⟩) (ne_bM_bN.out) (.int .i64 md.call))
   obtain ⟨w24s,hw24⟩ : ∃ z,(World.setCell (World.setCell (World.setCell (World.setCell (World.setCell (World.setCell w23 ⟨wS.heap.size,0,none⟩ (.slice v_ja md.mem.al.length v_jac)) ⟨wS.heap.size,1,none⟩ (.int .i64 md.mem.next)) ⟨wS.heap.size,2,none⟩ (.slice v_jk md.stks.length v_jkc)) ⟨wS.heap.size,3,none⟩ (.slice v_jr md.run.length v_jrc)) ⟨wS.heap.size,4,none⟩ (.int .i64 md.tag)) ⟨wS.heap.size,5,none⟩ (.int .i64 md.call))=z:=⟨_,rfl⟩
   rw [hw24] at hS24 bM bP bN ⊢
   clear hw24
   have hF24:=ExtBut.ext hF23 hS24 (fun b h=>by rcases h with h | h;(rw [h];exact lowbM.out);exact h.elim)
   replace Gg:=Lib.hid (Fq.but Gg.out hS24 (fun b h _ h2=>by rcases h2 with h2 | h2;exact h.1 h2;exact h2))
   replace Gj:=Lib.hid (Fq.but Gj.out hS24 (fun b h _ h2=>by rcases h2 with h2 | h2;exact h.1 h2;exact h2))
   clear hS24
   clear Gg
   obtain ⟨bM_0,bM_1,bM_2,bM_3,bM_4,bM_5,bM_l⟩:=bM.c6
   obtain ⟨bP_0,bP_1,bP_2,bP_l⟩:=bP.c3
   go_wp2_with fail
   clear bM_0 bM_1 bM_2 bM_3 bM_4 bM_5 bM_l bP_0 bP_1 bP_2 bP_l
   have ltbM:=Lib.hid bM.lt
   refine (monitor_Load 0 0 1 (l.length : Int) Gj.out.read.1 (i64_of_ok k5.out) Gj.out.read.2.1 Gj.out.read.2.2).mono ?_
   rintro e w25 ⟨vt,vl,rfl,fM,fL,hE25⟩
   replace bM:=bM.ext hE25
   replace bP:=bP.ext hE25
   replace bN:=bN.ext hE25
   replace Gj:=Lib.hid (Fq.ext Gj.out hE25)
   have hF25:=Ext.trans hF24 hE25
   clear fL
   rw [c14.out] at fM ⊢
   try dsimp only [Ptr.val] at fM ⊢
   obtain ⟨ksa,kss,ksr,rfl,qk⟩:=FrMon.parts fM
   clear fM
   obtain ⟨v_ka,v_kac,rfl,-⟩:=(qk.read).1.form
   obtain ⟨v_kk,v_kkc,rfl,-⟩:=(qk.read).2.1.form
   obtain ⟨v_kr,v_krc,rfl,-⟩:=(qk.read).2.2.form
   try dsimp only at qk ⊢
   have Gk:=Lib.hid (Fq.mono (S':=(fun b=>b≠wS.heap.size∧True)) qk (fun b h1 _=>by have gbM:=ltbM.out;exact ⟨by omega,trivial⟩))
   clear qk ltbM
   go_wp2
   go_ret
   exact ⟨rfl,hF25⟩
  ·skip
   have q5 : (tn == 1)=false:=beq_eq_false_iff_ne.2 htn
   have q6 : (tn != 1)=true:=by simpa using htn
   have c12o:=Lib.hid (c12.out htn)
   replace htn:=Lib.hid htn
   obtain ⟨bP_0,bP_1,bP_2,bP_l⟩:=bP.c3
   obtain ⟨bN_0,bN_1,bN_2,bN_l⟩:=bN.c3
   go_upto_region 17 with fail
   clear bP_0 bP_1 bP_2 bP_l bN_0 bN_1 bN_2 bN_l
   clear q5 q6
   obtain ⟨bM_0,bM_1,bM_2,bM_3,bM_4,bM_5,bM_l⟩:=bM.c6
   obtain ⟨bN_0,bN_1,bN_2,bN_l⟩:=bN.c3
   go_wp2_with fail
   clear bM_0 bM_1 bM_2 bM_3 bM_4 bM_5 bM_l bN_0 bN_1 bN_2 bN_l
   have ltbM:=Lib.hid bM.lt
   refine (monitor_Load 0 0 tn (l.length : Int) Gg.out.read.1 (i64_of_ok k4.out) Gg.out.read.2.1 Gg.out.read.2.2).mono ?_
   rintro e w23 ⟨vt,vl,rfl,fM,fL,hE23⟩
   replace bM:=bM.ext hE23
   replace bP:=bP.ext hE23
   replace bN:=bN.ext hE23
   replace Gg:=Lib.hid (Fq.ext Gg.out hE23)
   have hF23:=Ext.trans hF22 hE23
   clear fL
   rw [c12o.out] at fM ⊢
   try dsimp only [Ptr.val] at fM ⊢
   obtain ⟨lsa,lss,lsr,rfl,ql⟩:=FrMon.parts fM
   clear fM
   obtain ⟨v_la,v_lac,rfl,-⟩:=(ql.read).1.form
   obtain ⟨v_lk,v_lkc,rfl,-⟩:=(ql.read).2.1.form
   obtain ⟨v_lr,v_lrc,rfl,-⟩:=(ql.read).2.2.form
   try dsimp only at ql ⊢
   have Gl:=Lib.hid (Fq.mono (S':=(fun b=>b≠wS.heap.size∧True)) ql (fun b h1 _=>by have gbM:=ltbM.out;exact ⟨by omega,trivial⟩))
   clear ql ltbM
   clear Gl
   obtain ⟨bM_0,bM_1,bM_2,bM_3,bM_4,bM_5,bM_l⟩:=bM.c6
   obtain ⟨bP_0,bP_1,bP_2,bP_l⟩:=bP.c3
   go_wp2_with fail
   clear bM_0 bM_1 bM_2 bM_3 bM_4 bM_5 bM_l bP_0 bP_1 bP_2 bP_l
   have ltbM:=Lib.hid bM.lt
   refine (monitor_End 0 Gg.out.read.1 (i64_of_ok k4.out) Gg.out.read.2.1 Gg.out.read.2.2).mono ?_
   rintro e w24 ⟨vt,rfl,fM,hE24⟩
   replace bM:=bM.ext hE24
   replace bP:=bP.ext hE24
   replace bN:=bN.ext hE24
   replace Gg:=Lib.hid (Fq.ext Gg.out hE24)
   have hF24:=Ext.trans hF23 hE24
   rw [c13.out] at fM ⊢
   try dsimp only [Ptr.val] at fM ⊢
   obtain ⟨jsa,jss,jsr,rfl,qj⟩:=FrMon.parts fM
   clear fM
   obtain ⟨v_ja,v_jac,rfl,-⟩:=(qj.read).1.form
   obtain ⟨v_jk,v_jkc,rfl,-⟩:=(qj.read).2.1.form
   obtain ⟨v_jr,v_jrc,rfl,-⟩:=(qj.read).2.2.form
   try dsimp only at qj ⊢
   have Gj:=Lib.hid (Fq.mono (S':=(fun b=>b≠wS.heap.size∧True)) qj (fun b h1 _=>by have gbM:=ltbM.out;exact ⟨by omega,trivial⟩))
   clear qj ltbM
   have bM_0 : World.cell? w24 ⟨wS.heap.size,0,none⟩=some (.slice v_ga m4.mem.al.length v_gac):=bM.cell 0
   have bM_1 : World.cell? w24 ⟨wS.heap.size,1,none⟩=some (.int .i64 m4.mem.next):=bM.cell 1
   have bM_2 : World.cell? w24 ⟨wS.heap.size,2,none⟩=some (.slice v_gk m4.stks.length v_gkc):=bM.cell 2
   have bM_3 : World.cell? w24 ⟨wS.heap.size,3,none⟩=some (.slice v_gr m4.run.length v_grc):=bM.cell 3
   have bM_4 : World.cell? w24 ⟨wS.heap.size,4,none⟩=some (.int .i64 m4.tag):=bM.cell 4
   have bM_5 : World.cell? w24 ⟨wS.heap.size,5,none⟩=some (.int .i64 m4.call):=bM.cell 5
   have bM_f0 : World.frozen? w24 ⟨wS.heap.size,0,none⟩=false:=bM.frozen 0
   have bM_f1 : World.frozen? w24 ⟨wS.heap.size,1,none⟩=false:=bM.frozen 1
   have bM_f2 : World.frozen? w24 ⟨wS.heap.size,2,none⟩=false:=bM.frozen 2
   have bM_f3 : World.frozen? w24 ⟨wS.heap.size,3,none⟩=false:=bM.frozen 3
   have bM_f4 : World.frozen? w24 ⟨wS.heap.size,4,none⟩=false:=bM.frozen 4
   have bM_f5 : World.frozen? w24 ⟨wS.heap.size,5,none⟩=false:=bM.frozen 5
   have bM_l:=bM.lt
   go_upto_region 21 with fail
   clear bM_0 bM_1 bM_2 bM_3 bM_4 bM_5 bM_f0 bM_f1 bM_f2 bM_f3 bM_f4 bM_f5 bM_l
   have hS25 : ExtBut (fun b=>b=wS.heap.size∨False) w24 (World.setCell (World.setCell (World.setCell (World.setCell (World.setCell (World.setCell w24 ⟨wS.heap.size,0,none⟩ (.slice v_ja md.mem.al.length v_jac)) ⟨wS.heap.size,1,none⟩ (.int .i64 md.mem.next)) ⟨wS.heap.size,2,none⟩ (.slice v_jk md.stks.length v_jkc)) ⟨wS.heap.size,3,none⟩ (.slice v_jr md.run.length v_jrc)) ⟨wS.heap.size,4,none⟩ (.int .i64 md.tag)) ⟨wS.heap.size,5,none⟩ (.int .i64 md.call)):=by (repeat' with_reducible first | exact ExtBut.refl _ _ | refine ExtBut.dr ?_ | refine ExtBut.sc ?_ ?_ | fail) <;> dsimp only <;> omega
   replace bM:=(Box.setL (Box.setL (Box.setL (Box.setL (Box.setL (Box.setL bM 0 (.slice v_ja md.mem.al.length v_jac)) 1 (.int .i64 md.mem.next)) 2 (.slice v_jk md.stks.length v_jkc)) 3 (.slice v_jr md.run.length v_jrc)) 4 (.int .i64 md.tag)) 5 (.int .i64 md.call))
   simp only [List.set_cons_zero,List.set_cons_succ] at bM
   replace bP:=(Box.other (Box.other (Box.other (Box.other (Box.other (Box.other bP (p:=⟨wS.heap.size,0,none⟩) (ne_bM_bP.out) (.slice v_ja md.mem.al.length v_jac)) (p:=⟨wS.heap.size,1,none⟩) (ne_bM_bP.out) (.int .i64 md.mem.next)) (p:=⟨wS.heap.size,2,none⟩) (ne_bM_bP.out) (.slice v_jk md.stks.length v_jkc)) (p:=⟨wS.heap.size,3,none⟩) (ne_bM_bP.out) (.slice v_jr md.run.length v_jrc)) (p:=⟨wS.heap.size,4,none⟩) (ne_bM_bP.out) (.int .i64 md.tag)) (p:=⟨wS.heap.size,5,none⟩) (ne_bM_bP.out) (.int .i64 md.call))
   replace bN:=(Box.other (Box.other (Box.other (Box.other (Box.other (Box.other bN (p:=⟨wS.heap.size,0,none⟩) (ne_bM_bN.out) (.slice v_ja md.mem.al.length v_jac)) (p:=⟨wS.heap.size,1,none⟩) (ne_bM_bN.out) (.int .i64 md.mem.next)) (p:=⟨wS.heap.size,2,none⟩) (ne_bM_bN.out) (.slice v_jk md.stks.length v_jkc)) (p:=⟨wS.heap.size,3,none⟩) (ne_bM_bN.out) (.slice v_jr md.run.length v_jrc)) (p:=⟨wS.heap.size,4,none⟩) (ne_bM_bN.out) (.int .i64 md.tag)) (p:=⟨wS.heap.size,5,none⟩) (ne_bM_bN.out) (.int .i64 md.call))
   obtain ⟨w25s,hw25⟩ : ∃ z,(World.setCell (World.setCell (World.setCell (World.setCell (World.setCell (World.setCell w24 ⟨wS.heap.size,0,none⟩ (.slice v_ja md.mem.al.length v_jac)) ⟨wS.heap.size,1,none⟩ (.int .i64 md.mem.next)) ⟨wS.heap.size,2,none⟩ (.slice v_jk md.stks.length v_jkc)) ⟨wS.heap.size,3,none⟩ (.slice v_jr md.run.length v_jrc)) ⟨wS.heap.size,4,none⟩ (.int .i64 md.tag)) ⟨wS.heap.size,5,none⟩ (.int .i64 md.call))=z:=⟨_,rfl⟩
   rw [hw25] at hS25 bM bP bN ⊢
   clear hw25
   have hF25:=ExtBut.ext hF24 hS25 (fun b h=>by rcases h with h | h;(rw [h];exact lowbM.out);exact h.elim)
   replace Gg:=Lib.hid (Fq.but Gg.out hS25 (fun b h _ h2=>by rcases h2 with h2 | h2;exact h.1 h2;exact h2))
   replace Gj:=Lib.hid (Fq.but Gj.out hS25 (fun b h _ h2=>by rcases h2 with h2 | h2;exact h.1 h2;exact h2))
   clear hS25
   clear Gg
   obtain ⟨bM_0,bM_1,bM_2,bM_3,bM_4,bM_5,bM_l⟩:=bM.c6
   obtain ⟨bP_0,bP_1,bP_2,bP_l⟩:=bP.c3
   go_wp2_with fail
   clear bM_0 bM_1 bM_2 bM_3 bM_4 bM_5 bM_l bP_0 bP_1 bP_2 bP_l
   have ltbM:=Lib.hid bM.lt
   refine (monitor_Load 0 0 1 (l.length : Int) Gj.out.read.1 (i64_of_ok k5.out) Gj.out.read.2.1 Gj.out.read.2.2).mono ?_
   rintro e w26 ⟨vt,vl,rfl,fM,fL,hE26⟩
   replace bM:=bM.ext hE26
   replace bP:=bP.ext hE26
   replace bN:=bN.ext hE26
   replace Gj:=Lib.hid (Fq.ext Gj.out hE26)
   have hF26:=Ext.trans hF25 hE26
   clear fL
   rw [c14.out] at fM ⊢
   try dsimp only [Ptr.val] at fM ⊢
   obtain ⟨ksa,kss,ksr,rfl,qk⟩:=FrMon.parts fM
   clear fM
   obtain ⟨v_ka,v_kac,rfl,-⟩:=(qk.read).1.form
   obtain ⟨v_kk,v_kkc,rfl,-⟩:=(qk.read).2.1.form
   obtain ⟨v_kr,v_krc,rfl,-⟩:=(qk.read).2.2.form
   try dsimp only at qk ⊢
   have Gk:=Lib.hid (Fq.mono (S':=(fun b=>b≠wS.heap.size∧True)) qk (fun b h1 _=>by have gbM:=ltbM.out;exact ⟨by omega,trivial⟩))
   clear qk ltbM
   go_wp2
   go_ret
   exact ⟨rfl,hF26⟩
end Go.Proofs.YtoanoodfacmieaaDoor

/- Cells of a slice's beginning; new stacks aas data. -/
namespace Go.Proofs.YtoanoodfacmieaaDoor
set_option maxRecDepth 100000
open Go.RowKit
theorem Cls.first9 {w : World} {a : Option Addr} {cap : Nat} {c1 c2 : Cell} (h : Cls w (.slice a 2 cap) [c1,c2]) : Cls w (.slice a 1 cap) [c1]:=by
 obtain ⟨h1,a',cap',e,h3,h4,h5,h6⟩:=h
 cases e
 refine ⟨rfl,a,cap,rfl,by simp at h3 ⊢;omega,h4,h5,fun j u hj=>h6 j u ?_⟩
 have hj2 : (Cell.row c1)[j]? = some u:=by simpa using hj
 have hl:=(List.getElem?_eq_some_iff.1 hj2).1
 rw [List.flatMap_cons,List.getElem?_append_left hl]
 exact hj2
theorem top_new {n : Nat} (hn : n=1∨n=2) : newK 0 (n : Int) 1=(⟨0,List.replicate n [⟨1,1,0⟩]⟩,0):=by
 rcases hn with rfl | rfl <;> decide +kernel
def XK (N : Nat) (Bx : List Nat) (y : Stk) (T : TypeId) (s : St) (vs : Array Value) : Prop:=T=44 → ∃ a9 : Option Addr × Nat,vs=#[.int .i64 y.num,.slice a9.1 y.cells.length a9.2]∧FSb N Bx s (fun w=>Sts w (.slice a9.1 y.cells.length a9.2) y.cells)
theorem XK_st {N : Nat} {Bx : List Nat} {y : Stk} : ∀ T s s' vs,XK N Bx y T s vs→RX0 N Bx s s'→XK N Bx y T s' vs:=fun _ _ _ _ h k e=>by
 obtain ⟨a,h1,h2⟩:=h e
 exact ⟨a,h1,h2.mono k⟩
structure TopLoop (wS : World) (BM BX BN BP lb : Nat) (l : List Cell) (k : Nat) (lv : Value) (wr : World) (m : Mon) (a : A3) (U : List Item) (it : Item) (t last : Int) (xa : Option Addr) (xc : Nat) : Prop where
 hm : oneM l (U ++ [it]) [] t 1=m
 inv : TopInv k U it t last
 lv : lv = .int .u8 last
 bM : Box wr BM 35 #[.slice a.a1 m.mem.al.length a.c1,.int .i64 m.mem.next,.slice a.a2 m.stks.length a.c2,.slice a.a3 m.run.length a.c3,.int .i64 m.tag,.int .i64 m.call]
 bX : Box wr BX 44 #[.int .i64 0,.slice xa l.length xc]
 bN : Box wr BN 26 #[.int .i64 0,.int .i64 0,.int .i64 it.t]
 bP : Box wr BP 26 #[.int .i64 0,.int .i64 0,.int .i64 1]
 mon : Fq (fun b=>b≠BM∧b≠BX∧b≠BN∧True) wr (RdA m a)
 stk : Fq (fun b=>b≠BM∧b≠BX∧b≠BN∧True) wr (fun w=>Sts w (.slice xa l.length xc) (List.replicate l.length (U ++ [it])))
 cel : Fq (fun b=>b≠BM∧b≠BX∧b≠BN∧True) wr (fun w=>Cls w (.slice (some ⟨lb,0,none⟩) l.length 2) l)
 ext : Ext wS wr
end Go.Proofs.YtoanoodfacmieaaDoor

/- How a list of bytes among the arguments reads. -/
namespace Go.Proofs.YtoanoodfacmieaaDoor
set_option maxRecDepth 100000
open Go.ChangeShapes Go.WideShapes Go.ChangeAt Go.RowKit
def urow (a : Int) : List Value:=[.int .u8 a]
def Uts (w : World) (v : Value) (l : List Int) : Prop:=Sl w 1 v l.length (l.flatMap urow)
theorem urow_len (a : Int) : (urow a).length=1:=rfl
theorem Uts.ext {w w' : World} {v : Value} {l : List Int} (h : Uts w v l) (hE : Ext w w') : Uts w' v l:=Sl.ext h hE
theorem Uts.cell {w : World} {a : Option Addr} {n cap : Nat} {l : List Int} (h : Uts w (.slice a n cap) l) {i : Nat} {x : Int} (hx : l[i]? = some x) :
  ∃ b off,a=some ⟨b,off,none⟩∧b < w.heap.size∧w.cell? ⟨b,off+i,none⟩=some (.int .u8 x):=by
 have hi : i < l.length:=(List.getElem?_eq_some_iff.1 hx).1
 obtain ⟨b,off,rfl,hb,hc⟩:=Sl.at h (by omega) (by omega : 0 < l.length)
 have g:=rows_get urow urow_len l i
 have:=hc (i * 1+0) _ ((g 0 x hx (by omega)).trans rfl)
 exact ⟨b,off,rfl,hb,by simpa using this⟩
section
variable {H : Type} {enc : TypeId × Value→H} {w : World} {base : Nat} {spare : Nat→Bool} {held : Bool}
theorem rows_of_u8s : ∀ {rows : List (List Value)} {l : List Int},All2 (fun cs (a : Int)=>cs=urow a∧u8B a) rows l→rows.flatten=l.flatMap urow ∧ ∀ a ∈ l,u8B a
 | [],[],_=>⟨rfl,fun _ h=>by cases h⟩
 | r :: rows,a :: l,h=>by
  obtain ⟨h1,h2⟩:=rows_of_u8s h.2
  refine ⟨by rw [List.flatten_cons,List.flatMap_cons,h1,h.1.1],fun b hb => ?_⟩
  rcases List.mem_cons.1 hb with rfl | hb
  ·exact h.1.2
  ·exact h2 b hb
theorem open_u8s {t : Nat} (ht : Tryd.prog.underlying t=some (.slice 5)) {r : Reach} {b0 : Nat} {v : Value} {d : DataW H} {p : List MemPlace} (hv : Value.okWide Tryd.prog w r b0 t v) (h : DataW.Trod enc Tryd.prog w base spare held t v d p) :
  ∃ l : List Int,Uts w v l ∧ ∀ a ∈ l,u8B a:=by
 obtain ⟨a0,len,cap,rfl⟩:=okWide_slice ht hv
 obtain ⟨n,hn⟩:=h
 obtain ⟨v,rows,l,hv9,hs,_,ha⟩:=read_slice (k:=1) ht (by kernel_rfl) (by omega) (fun cs (a : Int)=>cs=urow a∧u8B a) (fun n cs x hl h=>by
  obtain ⟨a,e,_,hw⟩:=DataW.trod_int Tryd.underlying5 h
  exact ⟨a,e,by simpa [Lit.wf,IntKind.min,IntKind.max,IntKind.signed,IntKind.bits,u8B] using hw⟩) hn
 simp only [Value.cells,List.cons.injEq,and_true] at hv9
 subst hv9
 obtain ⟨e,hw⟩:=rows_of_u8s ha
 refine ⟨l,?_,hw⟩
 unfold Uts
 rw [← e,← ha.length]
 exact hs
end
end Go.Proofs.YtoanoodfacmieaaDoor

/- TopStacks: a region that stores into three old variables, whatever the order of its operations: what holds between two of its worlds; no program in sight. -/
namespace Go.Proofs.YtoanoodfacmieaaDoor
set_option maxRecDepth 100000
open Go.RowKit
structure R3 (AM AX AN : Nat) (TM TX TN : TypeId) (oM nM oX nX oN nN : Array Value) (w w' : World) : Prop where
 but : ExtBut (fun b=>b=AM∨b=AX∨b=AN) w w'
 m1 : (Box w AM TM oM∨Box w AM TM nM)→(Box w' AM TM oM∨Box w' AM TM nM)
 m2 : Box w AM TM nM→Box w' AM TM nM
 x1 : (Box w AX TX oX∨Box w AX TX nX)→(Box w' AX TX oX∨Box w' AX TX nX)
 x2 : Box w AX TX nX→Box w' AX TX nX
 n1 : (Box w AN TN oN∨Box w AN TN nN)→(Box w' AN TN oN∨Box w' AN TN nN)
 n2 : Box w AN TN nN→Box w' AN TN nN
section
variable {AM AX AN : Nat} {TM TX TN : TypeId} {oM nM oX nX oN nN : Array Value} {w w' w'' : World}
theorem R3.refl (w : World) : R3 AM AX AN TM TX TN oM nM oX nX oN nN w w:=⟨ExtBut.refl _ _,id,id,id,id,id,id⟩
theorem R3.trans (h : R3 AM AX AN TM TX TN oM nM oX nX oN nN w w') (k : R3 AM AX AN TM TX TN oM nM oX nX oN nN w' w'') : R3 AM AX AN TM TX TN oM nM oX nX oN nN w w'' :=
 ⟨h.but.trans k.but,fun q=>k.m1 (h.m1 q),fun q=>k.m2 (h.m2 q),fun q=>k.x1 (h.x1 q),fun q=>k.x2 (h.x2 q),fun q=>k.n1 (h.n1 q),fun q=>k.n2 (h.n2 q)⟩
theorem R3.stM (hb : ExtBut (fun b=>b=AM) w w') (hn : Box w' AM TM nM) (h1 : AX≠AM) (h2 : AN≠AM) : R3 AM AX AN TM TX TN oM nM oX nX oN nN w w' :=
 ⟨hb.mono fun _ _ h => .inl h,fun _ => .inr hn,fun _=>hn,fun q=>q.imp (fun b=>b.but hb h1) (fun b=>b.but hb h1),fun b=>b.but hb h1,fun q=>q.imp (fun b=>b.but hb h2) (fun b=>b.but hb h2),fun b=>b.but hb h2⟩
theorem R3.stX (hb : ExtBut (fun b=>b=AX) w w') (hn : Box w' AX TX nX) (h1 : AM≠AX) (h2 : AN≠AX) : R3 AM AX AN TM TX TN oM nM oX nX oN nN w w' :=
 ⟨hb.mono fun _ _ h => .inr (.inl h),fun q=>q.imp (fun b=>b.but hb h1) (fun b=>b.but hb h1),fun b=>b.but hb h1,fun _ => .inr hn,fun _=>hn,fun q=>q.imp (fun b=>b.but hb h2) (fun b=>b.but hb h2),fun b=>b.but hb h2⟩
theorem R3.stN (hb : ExtBut (fun b=>b=AN) w w') (hn : Box w' AN TN nN) (h1 : AM≠AN) (h2 : AX≠AN) : R3 AM AX AN TM TX TN oM nM oX nX oN nN w w' :=
 ⟨hb.mono fun _ _ h => .inr (.inr h),fun q=>q.imp (fun b=>b.but hb h1) (fun b=>b.but hb h1),fun b=>b.but hb h1,fun q=>q.imp (fun b=>b.but hb h2) (fun b=>b.but hb h2),fun b=>b.but hb h2,fun _ => .inr hn,fun _=>hn⟩
def PrM3 (AM AX AN : Nat) (TM TX TN : TypeId) (oM nM oX nX oN nN : Array Value) : PrR (R3 AM AX AN TM TX TN oM nM oX nX oN nN):=⟨fun _ w=>Box w AM TM nM,fun _ _ _ h hR=>hR.m2 h⟩
def PrX3 (AM AX AN : Nat) (TM TX TN : TypeId) (oM nM oX nX oN nN : Array Value) : PrR (R3 AM AX AN TM TX TN oM nM oX nX oN nN):=⟨fun _ w=>Box w AX TX nX,fun _ _ _ h hR=>hR.x2 h⟩
def PrN3 (AM AX AN : Nat) (TM TX TN : TypeId) (oM nM oX nX oN nN : Array Value) : PrR (R3 AM AX AN TM TX TN oM nM oX nX oN nN):=⟨fun _ w=>Box w AN TN nN,fun _ _ _ h hR=>hR.n2 h⟩
end
end Go.Proofs.YtoanoodfacmieaaDoor
