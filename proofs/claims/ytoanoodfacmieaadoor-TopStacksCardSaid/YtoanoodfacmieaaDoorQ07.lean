/- Several texts in one: StkB, StkC, StkD, Law31A, Law31B, DeaA, DeaB, MonF, StkE, StkF, StkG, StkH. -/
import Derived.Test.YtoanoodfacmieaaDoorQ04
import Derived.LoopIn
import Derived.Deep.QuietTactic
import Derived.BigQuiet
import Derived.Deep.RegionHeld3
import Derived.Deep.RegionLaw
import Derived.WalkMore
import Derived.Deep.LoopGhost
import Derived.Test.YtoanoodfacmieaaDoorQ06
/- Contracts: Great, Check and Same of the reference of layer 33, Check of the program. (printed by gen/stk33.py) -/
namespace Go.Proofs.YtoanoodfacmieaaDoor
set_option maxRecDepth 100000
open Go.RowKit
theorem stkErr_bad {x : Stk} (h : okK x=false) : stkErr x=8:=by simp [stkErr,h]
theorem stkErr_ok {x : Stk} (h : okK x=true) : stkErr x=0:=by simp [stkErr,h]
theorem okK_cell {x : Stk} {k : Nat} {s : List Item} (hx : x.cells[k]? = some s) (hs : okS s=false) : okK x=false:=by
 have : x.cells.all okS=false:=all_miss hx hs
 simp [okK,this]
set_option maxHeartbeats 1600000 in
theorem stacks_Check {l : List (List Item)} {num : Int} {s : Value} {w : World} (hl : Sts w s l) :
  Calls Tryd.prog 43 #[.agg #[.int .i64 num,s]] w fun e w'=>e = .returned (.int .i64 (stkErr ⟨num,l⟩))∧Ext w w':=by
 have hE0:=(Ext.refl w).alloc (.cells #[.int .i64 num,s] 44)
 have hl0:=hl.ext hE0
 obtain ⟨a,cp,rfl,hlc,hcm,-⟩:=hl.form
 unfold maxLen at hcm
 have hW:=Lib.hid hl0
 clear hl hl0
 have hcase : (okK ⟨num,l⟩=false∧(decide (num < 0)=true∨(decide (num < 0)=false∧(decide (1000000 < num)=true∨(decide (1000000 < num)=false∧(((l.length : Int) == 0)=true∨(((l.length : Int) == 0)=false∧decide ((2 : Int) < (l.length : Int))=true)))))))∨(decide (num < 0)=false∧decide (1000000 < num)=false∧((l.length : Int) == 0)=false∧decide ((2 : Int) < (l.length : Int))=false∧okK ⟨num,l⟩=l.all okS):=by
  unfold okK inB
  simp only [decide_eq_true_eq,decide_eq_false_iff_not,beq_iff_eq,beq_eq_false_iff_ne]
  by_cases h : 0≤num∧num≤1000000∧1≤l.length∧l.length≤2
  ·right
   refine ⟨by omega,by omega,by omega,by omega,?_⟩
   simp [h.1,h.2.1,h.2.2.1,h.2.2.2]
  ·left
   refine ⟨?_,by omega⟩
   by_cases h0 : 0≤num
   ·by_cases h1 : num≤1000000
    ·by_cases h2 : 1≤l.length
     ·have h3 : ¬ l.length≤2:=fun h3=>h ⟨h0,h1,h2,h3⟩
      simp [h3]
     ·simp [h2]
    ·simp [h1]
   ·simp [h0]
 rcases hcase with ⟨hbad,g1 | ⟨g1,g2 | ⟨g2,g3 | ⟨g3,g4⟩⟩⟩⟩ | ⟨g1,g2,g3,g4,hall⟩
 iterate 4
  ·have hres:=Lib.hid (stkErr_bad hbad)
   clear hbad
   go_enter Tryd.func43,Tryd.ntmps43
   go_wp2
   go_ret
   exact ⟨by rw [hres.out] <;> rfl,hE0⟩
 ·have hall':=Lib.hid hall
  clear hall
  go_enter Tryd.func43,Tryd.ntmps43
  go_wp2
  obtain ⟨w1,hw1⟩ : ∃ w1,w.alloc (.cells #[.int .i64 num,.slice a l.length cp] 44)=w1:=⟨_,rfl⟩
  have b2 : w1.cell? ⟨w.heap.size,1,none⟩=some (.slice a l.length cp):=by rw [← hw1];simp
  rw [hw1] at hE0 hW ⊢
  clear hw1
  go_loopw [29] (fun iv wr => ∃ k : Nat,k≤l.length∧iv = .int .i64 k∧Ext w1 wr∧Hid ((l.take k).all okS=true)) (fun iv _=>l.length - (intOf iv).toNat)
  case atStart=>exact ⟨0,Nat.zero_le _,rfl,Ext.refl _,by simp [Hid]⟩
  case round =>
   obtain ⟨k,hk,rfl,hE,hN⟩:=hrel
   have e2:=hE.cell b2
   by_cases hlt : k < l.length
   ·obtain ⟨x,hx⟩ : ∃ x,l[k]? = some x:=⟨l[k],by simp [hlt]⟩
    obtain ⟨b,off,sv,rfl,hbb,d0,hcl⟩:=(hW.out.ext hE).cell hx
    have hX:=Lib.hid hx
    obtain ⟨ca,ccp,rfl,-⟩:=hcl.form
    have hC:=Lib.hid hcl
    clear hx hbb hcl
    cases hok : okS x
    ·have hc : Hid (chk x=8):=Hid.mk (by simp [chk,hok])
     have hres:=Lib.hid (stkErr_bad (okK_cell (x:=⟨num,l⟩) hX.out hok))
     clear hok
     go_wp2_with fail
     refine (items_Check hC.out).mono ?_
     rintro e w2 ⟨rfl,hE2⟩
     rw [hc.out]
     go_wp2
     go_ret
     exact ⟨by rw [hres.out] <;> rfl,(hE0.trans hE).trans hE2⟩
    ·have hc : Hid (chk x=0):=Hid.mk (by simp [chk,hok])
     have hN2:=Lib.hid (all_take_succ hN.out hX.out hok)
     clear hok
     go_wp2_with fail
     refine (items_Check hC.out).mono ?_
     rintro e w2 ⟨rfl,hE2⟩
     rw [hc.out]
     go_wp2
     go_roundw
     case rel=>exact ⟨k+1,by omega,by go_num,hE.trans hE2,hN2.out⟩
     case measure=>simp [intOf];omega
   ·have hkl : k=l.length:=by omega
    subst hkl
    have hres : Hid (stkErr ⟨num,l⟩=0):=Hid.mk (stkErr_ok (by
     rw [hall'.out]
     have:=hN.out
     rwa [List.take_length] at this))
    go_wp2
    go_ret
    exact ⟨by rw [hres.out] <;> rfl,hE0.trans hE⟩
set_option maxHeartbeats 800000 in
theorem ref33_Same {l : List (List Item)} {num : Int} {s u : Value} {w : World} (hs : Sts w s l) (hu : Sts w u l) :
  Calls Tryd.prog 11 #[.agg #[.int .i64 num,s],.agg #[.int .i64 num,u]] w fun e w'=>e = .returned (.bool true)∧Ext w w':=by
 have hE0:=((Ext.refl w).alloc (.cells #[.int .i64 num,s] 44)).alloc (.cells #[.int .i64 num,u] 44)
 obtain ⟨a,cp,rfl,hlc,hcm,-⟩:=hs.form
 obtain ⟨a2,cp2,rfl,hlc2,hcm2,-⟩:=hu.form
 unfold maxLen at hcm hcm2
 have hS:=Lib.hid (hs.ext hE0)
 have hU:=Lib.hid (hu.ext hE0)
 clear hs hu
 go_enter Tryd.func11,Tryd.ntmps11
 go_wp2
 obtain ⟨w1,hw1⟩ : ∃ w1,(w.alloc (.cells #[.int .i64 num,.slice a l.length cp] 44)).alloc (.cells #[.int .i64 num,.slice a2 l.length cp2] 44)=w1:=⟨_,rfl⟩
 have b2 : w1.cell? ⟨w.heap.size,1,none⟩=some (.slice a l.length cp):=by rw [← hw1];simp
 have b3 : w1.cell? ⟨w.heap.size+1,1,none⟩=some (.slice a2 l.length cp2):=by rw [← hw1];simp
 rw [hw1] at hE0 hS hU ⊢
 clear hw1
 go_loopw [5] (fun iv wr => ∃ k : Nat,k≤l.length∧iv = .int .i64 k∧Ext w1 wr) (fun iv _=>l.length - (intOf iv).toNat)
 case atStart=>exact ⟨0,Nat.zero_le _,rfl,Ext.refl _⟩
 case round =>
  obtain ⟨k,hk,rfl,hE⟩:=hrel
  have e2:=hE.cell b2
  have e3:=hE.cell b3
  by_cases hlt : k < l.length
  ·obtain ⟨x,hx⟩ : ∃ x,l[k]? = some x:=⟨l[k],by simp [hlt]⟩
   obtain ⟨b,off,sv,rfl,hbb,c0,hc⟩:=(hS.out.ext hE).cell hx
   obtain ⟨b2,off2,su,rfl,hbb2,d0,hd⟩:=(hU.out.ext hE).cell hx
   obtain ⟨ca,ccp,rfl,-⟩:=hc.form
   obtain ⟨cb,dcp,rfl,-⟩:=hd.form
   have hC:=Lib.hid hc
   have hD:=Lib.hid hd
   clear hx hc hd hbb hbb2
   have hi0 : (0 : Int)≤(k : Int):=by omega
   have hi1 : (k : Int) < (l.length : Int):=by omega
   go_wp2
   have hSk : ∀ w' w'' : World,(w'.cell? ⟨w.heap.size,1,none⟩=some (.slice (some ⟨b,off,none⟩) l.length cp)∧w'.cell? ⟨w.heap.size+1,1,none⟩=some (.slice (some ⟨b2,off2,none⟩) l.length cp2)∧w'.cell? ⟨b,off+k,none⟩=some (.slice ca x.length ccp)∧w'.cell? ⟨b2,off2+k,none⟩=some (.slice cb x.length dcp)∧Ext wr w')→Ext w' w''→(w''.cell? ⟨w.heap.size,1,none⟩=some (.slice (some ⟨b,off,none⟩) l.length cp)∧w''.cell? ⟨w.heap.size+1,1,none⟩=some (.slice (some ⟨b2,off2,none⟩) l.length cp2)∧w''.cell? ⟨b,off+k,none⟩=some (.slice ca x.length ccp)∧w''.cell? ⟨b2,off2+k,none⟩=some (.slice cb x.length dcp)∧Ext wr w''):=by
    rintro w' w'' ⟨k0,k1,k2,k3,kE⟩ h
    exact ⟨h.cell k0,h.cell k1,h.cell k2,h.cell k3,Ext.trans kE h⟩
   go_region_held3 (fun w'=>(w'.cell? ⟨w.heap.size,1,none⟩=some (.slice (some ⟨b,off,none⟩) l.length cp)∧w'.cell? ⟨w.heap.size+1,1,none⟩=some (.slice (some ⟨b2,off2,none⟩) l.length cp2)∧w'.cell? ⟨b,off+k,none⟩=some (.slice ca x.length ccp)∧w'.cell? ⟨b2,off2+k,none⟩=some (.slice cb x.length dcp)∧Ext wr w')) (first | assumption | exact ⟨e2,e3,c0,d0,(Ext.refl _).drew⟩ | (refine hSk _ _ (by assumption) ?_;first | assumption | exact (Ext.refl _).alloc _ | exact ((Ext.refl _).alloc _).drew)) (first | (go_at_call 32;refine (ref28_Same_yes (hC.out.ext ?_) (hD.out.ext ?_)).mono ?_;(exact And.right (And.right (And.right (And.right (by assumption)))));(exact And.right (And.right (And.right (And.right (by assumption)))));rintro e wr0 ⟨rfl,hR0⟩))
   obtain ⟨g0,g1,g2,g3,hRR⟩:=(by assumption : (wr0.cell? ⟨w.heap.size,1,none⟩=some (.slice (some ⟨b,off,none⟩) l.length cp)∧wr0.cell? ⟨w.heap.size+1,1,none⟩=some (.slice (some ⟨b2,off2,none⟩) l.length cp2)∧wr0.cell? ⟨b,off+k,none⟩=some (.slice ca x.length ccp)∧wr0.cell? ⟨b2,off2+k,none⟩=some (.slice cb x.length dcp)∧Ext wr wr0))
   clear e2;have e2:=g0;clear g0
   clear e3;have e3:=g1;clear g1
   clear c0;have c0:=g2;clear g2
   clear d0;have d0:=g3;clear g3
   go_wp2
   go_roundw
   case rel=>exact ⟨k+1,by omega,by go_num,hE.trans hRR⟩
   case measure=>simp [intOf];omega
  ·have hkl : k=l.length:=by omega
   subst hkl
   go_wp2
   go_ret
   exact ⟨rfl,hE0.trans hE⟩
end Go.Proofs.YtoanoodfacmieaaDoor

/- Contracts: Fresh and Twin of the reference of layer 33, New of the program and of the reference. (printed by gen/stk33.py) -/
namespace Go.Proofs.YtoanoodfacmieaaDoor
set_option maxRecDepth 100000
open Go.RowKit
def based (n : Nat) (tag : Int) : List (List Item):=List.replicate n (baseOf tag)
theorem based_succ (n : Nat) (tag : Int) : based n tag ++ [baseOf tag]=based (n+1) tag:=(List.replicate_succ' ..).symm
theorem based_len (n : Nat) (tag : Int) : (based n tag).length=n:=List.length_replicate ..
set_option maxHeartbeats 1600000 in
theorem stacks_New_go (num size tag : Int) (w : World) (hnum : 0≤num∧num≤1000000) (hs : 1≤size∧size≤2) (ht : inB tag=true) :
  Calls Tryd.prog 8 #[.int .i64 num,.int .i64 size,.int .i64 tag] w (RetK w ⟨num,based size.toNat tag⟩ 0):=by
 obtain ⟨ai,az,hai,haz,hai3,haz3,haby⟩:=Stack.infoE
 have hai:=Lib.hid hai;have haz:=Lib.hid haz;have hai3:=Lib.hid hai3;have haz3:=Lib.hid haz3;have haby:=Lib.hid haby
 obtain ⟨N,rfl⟩ : ∃ N : Nat,size=N:=⟨size.toNat,by omega⟩
 rw [Int.toNat_natCast]
 have hN : N≤2:=by omega
 have q1 : decide (num < 0)=false:=decide_eq_false (by omega)
 have q2 : decide (1000000 < num)=false:=decide_eq_false (by omega)
 have q3 : decide ((N : Int) < 1)=false:=decide_eq_false (by omega)
 have q4 : decide ((2 : Int) < (N : Int))=false:=decide_eq_false (by omega)
 have hbe : Hid (baseErr tag=0):=Hid.mk (by simp [baseErr,ht])
 have hE0:=((Ext.refl w).alloc (.cells #[.int .i64 0,.slice none 0 0] 44)).alloc (.cells #[.int .i64 num,.slice none 0 0] 44)
 have bR:=(Box.new w 44 #[.int .i64 0,.slice none 0 0]).ext ((Ext.refl _).alloc (.cells #[.int .i64 num,.slice none 0 0] 44))
 have bO:=Box.new (World.alloc w (.cells #[.int .i64 0,.slice none 0 0] 44)) 44 #[.int .i64 num,.slice none 0 0]
 simp only [World.size_alloc] at bO
 have hH:=Lib.hid (And.intro bR bO)
 clear bR bO
 go_enter Tryd.func8,Tryd.ntmps8
 go_wp2
 obtain ⟨w1,hw1⟩ : ∃ w1,(World.alloc (World.alloc w (.cells #[.int .i64 0,.slice none 0 0] 44)) (.cells #[.int .i64 num,.slice none 0 0] 44))=w1:=⟨_,rfl⟩
 have hsz1 : w1.heap.size=w.heap.size+2:=by rw [← hw1];simp
 rw [hw1] at hE0 hH ⊢
 clear hw1
 have hsz1:=Lib.hid hsz1
 go_loopw [29] (fun iv wr => ∃ (k : Nat) (v : Value) (vs : List Value),k≤N∧iv = .int .i64 k∧Box wr (w.heap.size+1) 44 #[.int .i64 num,v]∧OwnS wr w1.heap.size v vs (based k tag)∧ExtBut (· = w.heap.size+1) w1 wr) (fun iv _=>N - (intOf iv).toNat)
 case atStart=>exact ⟨0,_,[],Nat.zero_le _,rfl,hH.out.2,OTb.nil _ _,ExtBut.refl _ _⟩
 case round =>
  obtain ⟨k,v,vs,hk,rfl,bO,hT,hX⟩:=hrel
  have bR:=hH.out.1.but hX (by omega)
  have hF : Ext w wr:=ExtBut.ext hE0 hX (fun x h=>by omega)
  have hlk : (based k tag).length=k:=based_len k tag
  have hOv:=hT.outer
  rw [hlk] at hOv
  obtain ⟨av,cv,rfl,hcv1,hcv2,-⟩:=hOv.sl.slice_form
  unfold maxLen at hcv2
  have o0 : wr.cell? ⟨w.heap.size+1,1,none⟩=some (.slice av k cv):=bO.cell 1
  have hBl:=bO.lt
  by_cases hlt : k < N
  ·have hA:=Lib.hid (And.intro trivial (And.intro hT (And.intro hX (And.intro hOv (And.intro bO hlk)))))
   clear hT hX hOv bO hlk bR hs hnum ht
   have hlt' : decide ((k : Int) < (N : Int))=true:=decide_eq_true (by omega)
   go_wp2_with fail
   refine (items_Base tag _).mono ?_
   rintro e w4 ⟨sn,rfl,hOn,hE4⟩
   rw [hbe.out]
   have hslt:=fun g e=>(Own.lt (g:=g) hOn) e
   obtain ⟨an,cn,rfl,hcn,hcn2,-⟩:=(Own.sl hOn).slice_form
   have o4:=hE4.cell o0
   have hE6:=hE4.alloc (.cells #[.slice an (baseOf tag).length cn] 57)
   have hS6 : Sl (w4.alloc (.cells #[.slice an (baseOf tag).length cn] 57)) 1 (.slice (some ⟨w4.heap.size,0,none⟩) 1 1) 1 (srow (.slice an (baseOf tag).length cn) (baseOf tag)) :=
    (Own.lit' (B:=0) (e:=57) (k:=1) w4 #[.slice an (baseOf tag).length cn] 1 (Nat.zero_le _) (by simp [maxLen]) rfl).sl
   have hB:=Lib.hid (And.intro hE6 (And.intro hOn (And.intro hslt hE4)))
   have hk6 : k≤1000000:=by omega
   clear hOn hE4 hE6
   go_wp2_with (at_builtin;refine Hid.out ?_)
   refine Hid.mk ?_
   refine wpList_append_any rfl _ _ 42 42 rfl rfl rfl Tryd.underlying42 Tryd.underlying42 hai.out haz.out hai3.out haz3.out (hA.out.2.2.2.1.ext hB.out.1) hS6 (by simp [srow,Value.oneCell']) (by simp [maxLen];omega) (by rw [haby.out];omega) (Nat.le_trans hA.out.2.2.1.size hB.out.1.size) ?_
   intro v' w6 hOv hKv hbv _
   have hlk:=hA.out.2.2.2.2.2
   have hP : OwnS w6 w1.heap.size v' (vs ++ [.slice an (baseOf tag).length cn]) (based k tag ++ [baseOf tag]):=OwnS.push hA.out.2.1 hB.out.1 ((OwnI.mono hB.out.2.1 (by have:=hA.out.2.2.1.size;omega)).ext ((Ext.refl _).alloc _)) (fun g e=>(hslt g e).1) (by rw [hlk];exact hOv) hKv hbv
   have htk : based k tag ++ [baseOf tag]=based (k+1) tag:=based_succ k tag
   rw [htk] at hP
   obtain ⟨av',cv',rfl,-⟩:=hOv.sl.slice_form
   have hvB:=fun g e=>(hA.out.2.2.2.1.lt (g:=g) e).1
   have hvB':=fun g e=>(hOv.lt (g:=g) e).1
   have hin':=OwnS.inner_lt hP
   have bO6:=(hA.out.2.2.2.2.1.ext hB.out.1).but (ExtBut.of_keeps hKv) (fun h=>by have:=hvB _ h;have:=hsz1.out;omega)
   have hX6:=((hA.out.2.2.1.trans (ExtBut.of_ext hB.out.1)).trans' (ExtBut.of_keeps hKv) (fun x hx h=>by have:=hvB _ h;omega)).trans (ExtBut.setCell w6 ⟨w.heap.size+1,1,none⟩ (.slice av' (k+1) cv'))
   have hP7:=OwnS.but hP (ExtBut.setCell w6 ⟨w.heap.size+1,1,none⟩ (.slice av' (k+1) cv')) (fun g e h=>by have:=hsz1.out;have h' : g=w.heap.size+1:=h;omega)
   have o6 : w6.cell? ⟨w.heap.size+1,1,none⟩=some (.slice av k cv):=bO6.cell 1
   have of6:=bO6.frozen 1
   have bO7:=bO6.set 1 (.slice av' (k+1) cv')
   have hR:=Lib.hid (And.intro bO7 (And.intro hP7 hX6))
   clear hvB hvB' hin' bO6 hX6 hP7 bO7 hP hOv hKv hbv hlk htk
   go_wp2
   go_roundw
   case rel=>exact ⟨k+1,_,_,by omega,by go_num,hR.out.1,hR.out.2.1,hR.out.2.2⟩
   case measure=>simp [intOf];omega
  ·have hkl : k=N:=by omega
   subst hkl
   have hlt' : decide ((k : Int) < (k : Int))=false:=decide_eq_false (by omega)
   have o1 : wr.cell? ⟨w.heap.size+1,0,none⟩=some (.int .i64 num):=bO.cell 0
   have r0 : wr.cell? ⟨w.heap.size,0,none⟩=some (.int .i64 0):=bR.cell 0
   have r1 : wr.cell? ⟨w.heap.size,1,none⟩=some (.slice none 0 0):=bR.cell 1
   have rf0:=bR.frozen 0
   have rf1:=bR.frozen 1
   have hT':=Lib.hid hT
   clear hT hlk hOv
   go_wp2
   have hY:=((ExtBut.setCell wr ⟨w.heap.size,0,none⟩ (.int .i64 num)).mono (S':=fun b=>b=w.heap.size) (fun x _ h=>h)).trans ((ExtBut.setCell _ ⟨w.heap.size,1,none⟩ (.slice av k cv)).mono (S':=fun b=>b=w.heap.size) (fun x _ h=>h))
   have hsz:=hsz1.out
   refine bodyPost_ret (v := .tuple #[.agg #[.int .i64 num,.slice av k cv],.int .i64 0]) (by simp [results,Tryd.f8,go_sem,r0,r1]) rfl ⟨_,vs,rfl,OwnS.mono (B':=w.heap.size) (OwnS.but hT'.out hY (fun g e h=>by omega)) (by omega),ExtBut.ext hF hY (fun x h=>by omega)⟩
theorem newK_no {num size tag : Int} (h : (inB num && inB tag && decide (1≤size) && decide (size≤2))=false) : newK num size tag=(Stk.zero,2):=by simp [newK,h]
theorem newK_yes {num size tag : Int} (h : (inB num && inB tag && decide (1≤size) && decide (size≤2))=true) : newK num size tag=(⟨num,based size.toNat tag⟩,0):=by
 have ht : inB tag=true:=by
  simp only [Bool.and_eq_true] at h
  exact h.1.1.2
 unfold newK
 rw [if_pos h]
 simp [based,baseOf,ht]
set_option maxHeartbeats 1600000 in
theorem stacks_New (num size tag : Int) (w : World) : Calls Tryd.prog 8 #[.int .i64 num,.int .i64 size,.int .i64 tag] w (RetK w (newK num size tag).1 (newK num size tag).2):=by
 cases hc : inB num && inB tag && decide (1≤size) && decide (size≤2)
 ·have hres:=Lib.hid (newK_no hc)
  have bR:=Box.new w 44 #[.int .i64 0,.slice none 0 0]
  have hE0 : Ext w (w.alloc (.cells #[.int .i64 0,.slice none 0 0] 44)):=(Ext.refl _).alloc _
  have hcase : decide (num < 0)=true∨(decide (num < 0)=false∧(decide (1000000 < num)=true∨(decide (1000000 < num)=false∧(decide (size < 1)=true∨(decide (size < 1)=false∧(decide (2 < size)=true∨(decide (2 < size)=false∧(size=1∨size=2)∧inB tag=false))))))):=by
   unfold inB at hc ⊢
   simp only [Bool.and_eq_false_iff,decide_eq_true_eq,decide_eq_false_iff_not] at hc ⊢
   omega
  clear hc
  rcases hcase with q1 | ⟨q1,q2 | ⟨q2,q3 | ⟨q3,q4 | ⟨q4,q5,q6⟩⟩⟩⟩
  iterate 4
   ·have b0 : (w.alloc (.cells #[.int .i64 0,.slice none 0 0] 44)).cell? ⟨w.heap.size,0,none⟩=some (.int .i64 0):=bR.cell 0
    have b1 : (w.alloc (.cells #[.int .i64 0,.slice none 0 0] 44)).cell? ⟨w.heap.size,1,none⟩=some (.slice none 0 0):=bR.cell 1
    have f0:=bR.frozen 0
    have f1:=bR.frozen 1
    clear bR
    go_enter Tryd.func8,Tryd.ntmps8
    go_wp2
    rw [hres.out]
    refine bodyPost_ret (v := .tuple #[.agg #[.int .i64 0,.slice none 0 0],.int .i64 2]) (by simp [results,Tryd.f8,go_sem,b0,b1]) rfl ⟨_,[],rfl,OwnS.nil _ _,?_⟩
    first | exact hE0 | exact (hE0.setCell (by simp) _).setCell (by simp) _
  have hbe : Hid (baseErr tag=2):=Hid.mk (by simp [baseErr,q6])
  clear q6
  rcases q5 with rfl | rfl
  all_goals
   have bO:=Box.new (w.alloc (.cells #[.int .i64 0,.slice none 0 0] 44)) 44 #[.int .i64 num,.slice none 0 0]
   have bR2:=bR.ext ((Ext.refl _).alloc (.cells #[.int .i64 num,.slice none 0 0] 44))
   have hE1:=hE0.alloc (.cells #[.int .i64 num,.slice none 0 0] 44)
   clear bR bO
   go_enter Tryd.func8,Tryd.ntmps8
   go_wp2
   obtain ⟨w1,hw1⟩ : ∃ w1,(w.alloc (.cells #[.int .i64 0,.slice none 0 0] 44)).alloc (.cells #[.int .i64 num,.slice none 0 0] 44)=w1:=⟨_,rfl⟩
   rw [hw1] at hE1 bR2 ⊢
   clear hw1
   go_loopw [29] (fun iv wr=>iv = .int .i64 0∧wr=w1) (fun _ _=>0)
   case atStart=>exact ⟨rfl,rfl⟩
   case round =>
    obtain ⟨rfl,rfl⟩:=hrel
    go_wp2_with fail
    refine (items_Base tag _).mono ?_
    rintro e w4 ⟨sn,rfl,hOn,hE4⟩
    rw [hbe.out]
    obtain ⟨an,cn,rfl,-⟩:=(Own.sl hOn).slice_form
    have bR4:=bR2.ext hE4
    have b0 : w4.cell? ⟨w.heap.size,0,none⟩=some (.int .i64 0):=bR4.cell 0
    have b1 : w4.cell? ⟨w.heap.size,1,none⟩=some (.slice none 0 0):=bR4.cell 1
    have f0:=bR4.frozen 0
    have f1:=bR4.frozen 1
    have hF4:=hE1.trans hE4
    clear bR4 hOn
    go_wp2
    rw [hres.out]
    refine bodyPost_ret (v := .tuple #[.agg #[.int .i64 0,.slice none 0 0],.int .i64 2]) (by simp [results,Tryd.f8,go_sem,b0,b1]) rfl ⟨_,[],rfl,OwnS.nil _ _,?_⟩
    first | exact hF4 | exact (hF4.setCell (by simp) _).setCell (by simp) _
 ·rw [newK_yes hc]
  simp only [Bool.and_eq_true,decide_eq_true_eq,inB] at hc
  exact stacks_New_go num size tag w ⟨hc.1.1.1.1,hc.1.1.1.2⟩ ⟨hc.1.2,hc.2⟩ (by simp [inB,hc.1.1.2.1,hc.1.1.2.2])
end Go.Proofs.YtoanoodfacmieaaDoor

/- Contracts: Twin of the reference of layer 33. (printed by gen/stk33.py) -/
namespace Go.Proofs.YtoanoodfacmieaaDoor
set_option maxRecDepth 100000
open Go.RowKit
end Go.Proofs.YtoanoodfacmieaaDoor

/- Contracts: the helpers of the statements of layer 31 that use layer 30. (printed by gen/law31b.py) -/
namespace Go.Proofs.YtoanoodfacmieaaDoor
set_option maxRecDepth 100000
open Go.RowKit
end Go.Proofs.YtoanoodfacmieaaDoor

/- Plain laws of layer 31: fewer calls, none; what is held stays. No program in sight. -/
namespace Go.Proofs.YtoanoodfacmieaaDoor
set_option maxRecDepth 100000
open Go.RowKit
end Go.Proofs.YtoanoodfacmieaaDoor

/- Contracts: the held items of layer 34: holds, free. (printed by gen/dea34.py) -/
namespace Go.Proofs.YtoanoodfacmieaaDoor
set_option maxRecDepth 100000
open Go.RowKit
def freeB (l : List (List Item)) (run : List Int) : Bool := !(l.any fun s=>s.any (heldBy run))
def keptL (l : List (List Item)) (run : List Int) : List Item:=l.flatMap fun s=>s.filter (heldBy run)
theorem search_endC {l : List Int} {t : Int} (hs : okFrom 0 l=true) {i : Nat} (hlo : ∀ k x,k < i→l[k]? = some x→x < t) (hhi : ∀ k x,i≤k→l[k]? = some x→t≤x) : l.contains t=(l[i]? == some t):=by
 cases h : l.contains t
 ·cases h2 : (l[i]? == some t)
  ·rfl
  ·have h3 : l[i]? = some t:=by simpa using h2
   have:=List.mem_of_getElem? h3
   have h4 : l.contains t=true:=by simpa using this
   rw [h] at h4;cases h4
 ·have hm : t ∈ l:=by simpa using h
  obtain ⟨k,hk⟩:=List.mem_iff_getElem?.1 hm
  rcases Nat.lt_trichotomy k i with h1 | h1 | h1
  ·have:=hlo k t h1 hk;omega
  ·subst h1;simp [hk]
  ·have hlt : i < l.length:=by have:=(List.getElem?_eq_some_iff.1 hk).1;omega
   have h5 : l[i]? = some l[i]:=by simp [hlt]
   have:=hhi i _ (Nat.le_refl _) h5
   have:=okFrom_lt hs h1 h5 hk
   omega
set_option maxHeartbeats 1600000 in
theorem binarySearchC {l : List Int} {v : Value} {w : World} (t : Int) (hl : Nts w v l) (hs : okFrom 0 l=true) (hlen : l.length≤1000) :
  Calls Tryd.prog 87 #[v,.int .i64 t] w (RetIB (hasR l t) w):=by
 obtain ⟨a,cp,rfl,hlc,hcm,-⟩:=hl.form
 unfold maxLen at hcm
 have hL:=Lib.hid hl
 have hS:=Lib.hid hs
 clear hl hs
 go_enter Tryd.func87,Tryd.ntmps87
 go_wp2
 go_loop [7,8] (fun iv jv => ∃ i j : Nat,i≤j∧j≤l.length∧iv = .int .i64 i∧jv = .int .i64 j∧Hid ((∀ k x,k < i→l[k]? = some x→x < t)∧(∀ k x,j≤k→l[k]? = some x→t≤x))) (fun iv jv=>(intOf jv).toNat - (intOf iv).toNat)
 case atStart=>exact ⟨0,l.length,Nat.zero_le _,Nat.le_refl _,rfl,rfl,⟨fun k x h=>by omega,fun k x h hx=>by rw [List.getElem?_eq_none h] at hx;cases hx⟩⟩
 case round =>
  obtain ⟨i,j,hij,hj,rfl,rfl,hN⟩:=hrel
  by_cases hlt : i < j
  ·obtain ⟨x,hx⟩ : ∃ x,l[(i+j) / 2]? = some x:=⟨l[(i+j) / 2]'(by omega),by simp⟩
   obtain ⟨b,off,rfl,hb,c0⟩:=hL.out.cell hx
   have hi0 : (0 : Int)≤((i : Int)+(j : Int)) / 2:=by omega
   have hi1 : ((i : Int)+(j : Int)) / 2 < (l.length : Int):=by omega
   have hmid : Hid (i≤(i+j) / 2∧(i+j) / 2 < j):=Hid.mk (by omega)
   by_cases hxt : x < t
   ·have hq : Hid (decide (x < t)=true):=Hid.mk (decide_eq_true hxt)
    have hR : Hid ((∀ k y,k < (i+j) / 2+1→l[k]? = some y→y < t)∧(∀ k y,j≤k→l[k]? = some y→t≤y)):=Hid.mk ⟨fun k y hk hy=>by
     rcases Nat.lt_or_eq_of_le (Nat.lt_succ_iff.1 hk) with h1 | h1
     ·have:=okFrom_lt hS.out h1 hy hx;omega
     ·subst h1;rw [hx] at hy;cases hy;exact hxt,hN.out.2⟩
    clear hx hxt
    go_wp2_with fail
    refine (cmp_Less _ _ _).mono ?_
    rintro e w' ⟨rfl,rfl⟩
    rw [hq.out]
    go_wp2
    go_round
    case rel=>exact ⟨(i+j) / 2+1,j,by have:=hmid.out;omega,hj,by congr 1,rfl,hR.out⟩
    case measure=>have:=hmid.out;simp [intOf];omega
   ·have hq : Hid (decide (x < t)=false):=Hid.mk (decide_eq_false hxt)
    have hR : Hid ((∀ k y,k < i→l[k]? = some y→y < t)∧(∀ k y,(i+j) / 2≤k→l[k]? = some y→t≤y)):=Hid.mk ⟨hN.out.1,fun k y hk hy=>by
     rcases Nat.lt_or_eq_of_le hk with h1 | h1
     ·have:=okFrom_lt hS.out h1 hx hy;omega
     ·subst h1;rw [hx] at hy;cases hy;omega⟩
    clear hx hxt
    go_wp2_with fail
    refine (cmp_Less _ _ _).mono ?_
    rintro e w' ⟨rfl,rfl⟩
    rw [hq.out]
    go_wp2
    go_round
    case rel=>exact ⟨i,(i+j) / 2,by have:=hmid.out;omega,by have:=hmid.out;omega,rfl,by congr 1,hR.out⟩
    case measure=>have:=hmid.out;simp [intOf];omega
  ·obtain rfl : i=j:=by omega
   have hend:=search_endC hS.out hN.out.1 hN.out.2
   by_cases hil : i < l.length
   ·obtain ⟨x,hx⟩ : ∃ x,l[i]? = some x:=⟨l[i],by simp [hil]⟩
    obtain ⟨b,off,rfl,hb,c0⟩:=hL.out.cell hx
    have hi0 : (0 : Int)≤(i : Int):=by omega
    have hi1 : (i : Int) < (l.length : Int):=by omega
    have hd : decide ((i : Int) < (l.length : Int))=true:=decide_eq_true (by omega)
    rw [hx] at hend
    have hend' : Hid (hasR l t=(x == t)):=Hid.mk (by rw [hasR,hend];rfl)
    clear hx hend
    cases hxt : x == t
    ·rw [hxt] at hend'
     go_wp2_with (go_at_call 95;refine (slices_isNaN _ _).mono ?_;rintro e w' ⟨rfl,rfl⟩)
     go_ret2
     exact ⟨_,by rw [hend'.out];rfl,rfl⟩
    ·rw [hxt] at hend'
     go_wp2_with (go_at_call 95;refine (slices_isNaN _ _).mono ?_;rintro e w' ⟨rfl,rfl⟩)
     go_ret2
     exact ⟨_,by rw [hend'.out];rfl,rfl⟩
   ·have hd : decide ((i : Int) < (l.length : Int))=false:=decide_eq_false (by omega)
    rw [List.getElem?_eq_none (by omega)] at hend
    have hend' : Hid (hasR l t=false):=Hid.mk (by rw [hasR,hend];rfl)
    clear hend
    go_wp2
    go_ret2
    exact ⟨_,by rw [hend'.out];rfl,rfl⟩
set_option maxHeartbeats 400000 in
theorem dealloc_holds {run : List Int} {v : Value} {w : World} (x : Item) (hl : Nts w v run) (hok : okR run=true) :
  Calls Tryd.prog 69 #[v,x.val] w fun e w'=>e = .returned (.bool (heldBy run x))∧Ext w w':=by
 obtain ⟨p,t,c⟩:=x
 have hE:=(Ext.refl w).alloc (.cells #[.int .u8 p,.int .i64 t,.int .i64 c] 52)
 have hBS:=Lib.hid (binarySearchC c (hl.ext hE) (okR_from hok) (by have:=okR_len hok;omega))
 obtain ⟨a,cp,rfl,-⟩:=hl.form
 clear hl hok
 unfold Item.val
 go_enter Tryd.func69,Tryd.ntmps69
 go_wp2_with fail
 refine hBS.out.mono ?_
 rintro e w1 ⟨i,rfl,rfl⟩
 go_wp2
 go_ret
 exact ⟨rfl,hE⟩
set_option maxHeartbeats 1600000 in
theorem dealloc_free {l : List (List Item)} {run : List Int} {num : Int} {s v : Value} {w : World} (hl : Sts w s l) (hr : Nts w v run) (hok : okR run=true) :
  Calls Tryd.prog 72 #[.agg #[.int .i64 num,s],v] w fun e w'=>e = .returned (.bool (freeB l run))∧Ext w w':=by
 have hE0:=(Ext.refl w).alloc (.cells #[.int .i64 num,s] 44)
 have hl0:=hl.ext hE0
 have hr0:=hr.ext hE0
 obtain ⟨a,cp,rfl,hlc,hcm,-⟩:=hl.form
 obtain ⟨a2,cp2,rfl,-⟩:=hr.form
 unfold maxLen at hcm
 have hW:=Lib.hid hl0
 have hR:=Lib.hid hr0
 replace hok:=Lib.hid hok
 clear hl hl0 hr hr0
 go_enter Tryd.func72,Tryd.ntmps72
 go_wp2
 go_step3
 go_wp2
 go_step3
 go_wp2
 obtain ⟨w1,hw1⟩ : ∃ w1,w.alloc (.cells #[.int .i64 num,.slice a l.length cp] 44)=w1:=⟨_,rfl⟩
 rw [hw1] at hE0 hW hR ⊢
 clear hw1
 go_loopw [6,16] (fun ov iv wr => ∃ k : Nat,k≤l.length∧iv = .int .i64 k∧ov = .bool true∧Ext w1 wr∧Hid ((l.take k).any (fun s=>s.any (heldBy run))=false)) (fun _ iv _=>l.length - (intOf iv).toNat)
 case atStart=>exact ⟨0,Nat.zero_le _,rfl,rfl,Ext.refl _,by simp [Hid]⟩
 case round =>
  obtain ⟨k,hk,rfl,rfl,hE,hN⟩:=hrel
  by_cases hlt : k < l.length
  ·obtain ⟨x,hx⟩ : ∃ x,l[k]? = some x:=⟨l[k],by simp [hlt]⟩
   obtain ⟨b,off,sv,rfl,hbb,d0,hcl⟩:=(hW.out.ext hE).cell hx
   have hX:=Lib.hid hx
   obtain ⟨ca,ccp,rfl,hclc,hccm,-⟩:=hcl.form
   unfold maxLen at hccm
   have hC:=Lib.hid hcl
   clear hx hbb hcl
   go_wp2
   obtain ⟨w2,hw2⟩ : ∃ w2,wr=w2:=⟨_,rfl⟩
   have hE2 : Ext w1 w2:=hw2 ▸ hE
   have hC2 : Hid (Its w2 (.slice ca x.length ccp) x):=hw2 ▸ hC
   rw [hw2]
   clear hw2 hC
   go_loopw [6,22] (fun ov jv wq => ∃ j : Nat,j≤x.length∧jv = .int .i64 j∧ov = .bool true∧Ext w2 wq∧Hid ((x.take j).any (heldBy run)=false)) (fun _ jv _=>x.length - (intOf jv).toNat)
   case atStart=>exact ⟨0,Nat.zero_le _,rfl,rfl,Ext.refl _,by simp [Hid]⟩
   case round =>
    obtain ⟨j,hj,rfl,rfl,hY,hM⟩:=hrel
    by_cases hjl : j < x.length
    ·obtain ⟨y,hy⟩ : ∃ y,x[j]? = some y:=⟨x[j],by simp [hjl]⟩
     obtain ⟨b2,off2,rfl,hbb2,c0,c1,c2⟩:=(hC2.out.ext hY).cell hy
     have hYl:=Lib.hid hy
     obtain ⟨yp,yt,yc⟩:=y
     have hEa:=(Ext.refl wr).alloc (.cells #[.int .u8 yp,.int .i64 yt,.int .i64 yc] 52)
     clear hy hbb2
     cases hh : heldBy run ⟨yp,yt,yc⟩
     ·have hh':=Lib.hid hh
      have hM2:=Lib.hid (sany_take_succ hM.out hYl.out hh)
      clear hh
      go_wp2_with fail
      refine (dealloc_holds ⟨yp,yt,yc⟩ (((hR.out.ext hE2).ext hY).ext hEa) hok.out).mono ?_
      rintro e w4 ⟨rfl,hE4⟩
      rw [hh'.out]
      go_wp2
      go_roundw
      case rel=>exact ⟨j+1,by omega,by go_num,rfl,(hY.trans hEa).trans hE4,hM2.out⟩
      case measure=>simp [intOf];omega
     ·have hh':=Lib.hid hh
      have hres : Hid (freeB l run=false):=Hid.mk (by unfold freeB;rw [sany_hit hX.out (sany_hit hYl.out hh)];rfl)
      clear hh
      go_wp2_with fail
      refine (dealloc_holds ⟨yp,yt,yc⟩ (((hR.out.ext hE2).ext hY).ext hEa) hok.out).mono ?_
      rintro e w4 ⟨rfl,hE4⟩
      rw [hh'.out]
      go_wp2
      (try rw [Exit.noGoto_ret])
      go_ret
      exact ⟨by rw [hres.out] <;> rfl,(((hE0.trans hE2).trans hY).trans hEa).trans hE4⟩
    ·have hje : j=x.length:=by omega
     subst hje
     have hN2:=Lib.hid (sany_take_succ (p:=fun s : List Item=>s.any (heldBy run)) hN.out hX.out (by have:=hM.out;rwa [List.take_length] at this))
     go_wp2
     go_roundw
     case rel=>exact ⟨k+1,by omega,by go_num,rfl,hE2.trans hY,hN2.out⟩
     case measure=>simp [intOf];omega
  ·have hkl : k=l.length:=by omega
   subst hkl
   have hres : Hid (freeB l run=true):=Hid.mk (by
    unfold freeB
    have:=hN.out
    rw [List.take_length] at this
    rw [this];rfl)
   go_wp2
   (try rw [Exit.noGoto_ret])
   go_ret
   exact ⟨by rw [hres.out] <;> rfl,hE0.trans hE⟩
end Go.Proofs.YtoanoodfacmieaaDoor

/- Contracts: Protects, End, All of layer 34, the program's and the reference's. (printed by gen/dea34.py) -/
namespace Go.Proofs.YtoanoodfacmieaaDoor
set_option maxRecDepth 100000
open Go.RowKit
def askErr (x : Stk) (run : List Int) : Int:=if okR run then stkErr x else 8
def protR (x : Stk) (run : List Int) : List Item × Int:=if askErr x run=0 then (keptL x.cells run,0) else ([],askErr x run)
def endR34 (x : Stk) (run : List Int) : Int × Int:=if askErr x run=0 then (if freeB x.cells run then 0 else 2,0) else (0,askErr x run)
theorem askErr_cases (x : Stk) (run : List Int) : askErr x run=8∨(askErr x run=0∧okR run=true∧okK x=true):=by
 unfold askErr
 cases h : okR run
 ·exact .inl (by simp)
 ·cases hk : okK x
  ·exact .inl (by simp [stkErr_bad hk])
  ·exact .inr ⟨by simp [stkErr_ok hk],rfl,rfl⟩
theorem okK_small {x : Stk} (h : okK x=true) : x.cells.length≤2 ∧ ∀ s ∈ x.cells,s.length≤600:=by
 unfold okK at h
 simp only [Bool.and_eq_true,decide_eq_true_eq] at h
 refine ⟨h.1.2,fun s hs => ?_⟩
 have:=List.all_eq_true.1 h.2 s hs
 unfold okS at this
 simp only [Bool.and_eq_true,decide_eq_true_eq] at this
 exact this.1
theorem kept_succ {l : List (List Item)} {run : List Int} {k : Nat} {x : List Item} (hx : l[k]? = some x) : keptL (l.take (k+1)) run=keptL (l.take k) run ++ x.filter (heldBy run):=by
 rw [List.take_add_one,hx]
 simp [keptL]
theorem kept_len {l : List (List Item)} {run : List Int} (h : ∀ s ∈ l,s.length≤600) : ∀ k : Nat,(keptL (l.take k) run).length≤600 * k
 | 0=>by simp [keptL]
 | k+1=>by
  have ih:=kept_len (run:=run) h k
  cases hx : l[k]? with
  | none =>
   rw [List.take_of_length_le (by have:=List.getElem?_eq_none_iff.1 hx;omega),← List.take_of_length_le (i:=k) (List.getElem?_eq_none_iff.1 hx)]
   omega
  | some x =>
   rw [kept_succ hx,List.length_append]
   have h1:=h x (List.mem_of_getElem? hx)
   have h2:=List.length_filter_le (heldBy run) x
   omega
theorem filt_yes {n : List Item} {q : Item→Bool} {j : Nat} {y : Item} (hy : n[j]? = some y) (hq : q y=true) : (n.take (j+1)).filter q=(n.take j).filter q ++ [y]:=by
 rw [List.take_add_one,hy,List.filter_append];simp [hq]
theorem filt_no {n : List Item} {q : Item→Bool} {j : Nat} {y : Item} (hy : n[j]? = some y) (hq : q y=false) : (n.take (j+1)).filter q=(n.take j).filter q:=by
 rw [List.take_add_one,hy,List.filter_append];simp [hq]
set_option maxHeartbeats 800000 in
theorem dealloc_asked {l : List (List Item)} {num : Int} {run : List Int} {s v : Value} {w : World} (hl : Sts w s l) (hr : Nts w v run) :
  Calls Tryd.prog 68 #[.agg #[.int .i64 num,s],v] w fun e w'=>e = .returned (.int .i64 (askErr ⟨num,l⟩ run))∧Ext w w':=by
 have hE0:=(Ext.refl w).alloc (.cells #[.int .i64 num,s] 44)
 have hl0:=hl.ext hE0
 have hr0:=hr.ext hE0
 obtain ⟨a,cp,rfl,-⟩:=hl.form
 obtain ⟨a2,cp2,rfl,-⟩:=hr.form
 have bM:=Box.new w 44 #[.int .i64 num,.slice a l.length cp]
 clear hl hr
 cases hok : okR run
 ·have h8:=Lib.hid (runErr_bad hok)
  have hres : Hid (askErr ⟨num,l⟩ run=8):=Hid.mk (by simp [askErr,hok])
  clear hok
  go_enter Tryd.func68,Tryd.ntmps68
  go_wp2_with fail
  refine (guard_Check hr0).mono ?_
  rintro e w1 ⟨rfl,rfl⟩
  rw [h8.out]
  go_wp2
  go_ret
  exact ⟨by rw [hres.out] <;> rfl,hE0⟩
 ·have h0:=Lib.hid (runErr_ok hok)
  have hres : Hid (askErr ⟨num,l⟩ run=stkErr ⟨num,l⟩):=Hid.mk (by simp [askErr,hok])
  clear hok
  go_enter Tryd.func68,Tryd.ntmps68
  go_wp2_with fail
  refine (guard_Check hr0).mono ?_
  rintro e w1 ⟨rfl,rfl⟩
  rw [h0.out]
  go_wp2_with fail
  refine (stacks_Check hl0).mono ?_
  rintro e w2 ⟨rfl,hE2⟩
  go_wp2
  go_ret
  exact ⟨by rw [hres.out] <;> rfl,hE0.trans hE2⟩
end Go.Proofs.YtoanoodfacmieaaDoor

/- What the functions of layer 35 on a monitor's life compute (Alloc, Enter, Leave, End, Forget), and plain laws of valid monitors; no program in sight. -/
namespace Go.Proofs.YtoanoodfacmieaaDoor
set_option maxRecDepth 100000
open Go.RowKit
def Ptr.zero : Ptr:=⟨0,0,0⟩
def allocM (m : Mon) (size : Int) : Mon × Ptr × Int :=
 if okMon m then
  if (addR m.mem size).2.2=0 then
   if m.tag=1000000 then (Mon.zero,Ptr.zero,18)
   else (⟨(addR m.mem size).1,m.stks ++ [⟨(addR m.mem size).2.1,based size.toNat m.tag⟩],m.run,m.tag+1,m.call⟩,⟨(addR m.mem size).2.1,0,m.tag⟩,0)
  else (Mon.zero,Ptr.zero,(addR m.mem size).2.2)
 else (Mon.zero,Ptr.zero,8)
def enterM (m : Mon) : Mon × Int × Int :=
 if okMon m then if m.run.length=32∨m.call=1000000 then (Mon.zero,0,18) else (⟨m.mem,m.stks,m.run ++ [m.call],m.tag,m.call+1⟩,m.call,0) else (Mon.zero,0,8)
def leaveM (m : Mon) : Mon × Int :=
 if okMon m then if m.run.length=0 then (Mon.zero,6) else (⟨m.mem,m.stks,m.run.take (m.run.length - 1),m.tag,m.call⟩,0) else (Mon.zero,8)
def endedK (x : Stk) : Stk:=⟨x.num,List.replicate x.cells.length []⟩
def endM (m : Mon) (n : Int) : Mon × Int × Int :=
 if okMon m then
  match atNum m.mem.al n with
  | none=>(Mon.zero,0,6)
  | some i =>
   if (m.mem.al.getD i Alloc.zero).live then
    if (endR34 (m.stks.getD i Stk.zero) m.run).1=0 then (⟨⟨endAt m.mem.al i,m.mem.next⟩,m.stks.set i (endedK (m.stks.getD i Stk.zero)),m.run,m.tag,m.call⟩,0,0)
    else (Mon.zero,(endR34 (m.stks.getD i Stk.zero) m.run).1,0)
   else (Mon.zero,0,6)
 else (Mon.zero,0,8)
def keptK (l : List Stk) (al : List Alloc) : List Stk:=((l.zip al).filter fun p=>p.2.live).map fun p=>p.1
structure MonOk (m : Mon) : Prop where
 mem : okM m.mem.al m.mem.next=true
 len : m.stks.length=m.mem.al.length
 tag : 1≤m.tag∧m.tag≤1000000
 call : 1≤m.call∧m.call≤1000000
 run : okR m.run=true
 last : m.run.length=0∨lastR m.run < m.call
 row : ∀ (i : Nat) (x : Stk) (a : Alloc),m.stks[i]? = some x→m.mem.al[i]? = some a→rowM m.tag m.call x a=true
theorem okMon_iff (m : Mon) : okMon m=true ↔ MonOk m:=by
 unfold okMon headM lastM rowsM cntd
 simp only [Bool.and_eq_true,Bool.or_eq_true,beq_iff_eq,decide_eq_true_eq,List.all_eq_true,List.mem_range]
 constructor
 ·rintro ⟨⟨⟨⟨⟨⟨h1,h2⟩,h3⟩,h4⟩,h5⟩,h6⟩,h7⟩
  refine ⟨h1,h2,h3,h4,h5,h6,fun i x a hx ha => ?_⟩
  have:=h7 i (List.getElem?_eq_some_iff.1 ha).1
  simpa only [rowAtM,hx,ha] using this
 ·rintro ⟨h1,h2,h3,h4,h5,h6,h7⟩
  refine ⟨⟨⟨⟨⟨⟨h1,h2⟩,h3⟩,h4⟩,h5⟩,h6⟩,fun i hi => ?_⟩
  have ha : m.mem.al[i]? = some m.mem.al[i]:=by simp [hi]
  have hx : m.stks[i]? = some (m.stks[i]'(by rw [h2];exact hi)):=by simp
  simp only [rowAtM,hx,ha]
  exact h7 i _ _ hx ha
theorem MonOk.of {m : Mon} (h : okMon m=true) : MonOk m:=(okMon_iff m).1 h
theorem monErr_of {m : Mon} (h : okMon m=true) : monErr m=0:=by simp [monErr,h]
theorem monErr_not {m : Mon} (h : okMon m=false) : monErr m=8:=by simp [monErr,h]
theorem rowM_parts {tag call : Int} {x : Stk} {a : Alloc} (h : rowM tag call x a=true) : x.num=a.num∧x.cells.length=a.cells.length∧okK x=true ∧ ∀ s ∈ x.cells,∀ it ∈ s,a.live=true∧it.t < tag∧it.c < call:=by
 unfold rowM itM at h
 simp only [Bool.and_eq_true,beq_iff_eq,List.all_eq_true,decide_eq_true_eq,List.mem_flatten] at h
 exact ⟨h.1.1.1,h.1.1.2,h.1.2,fun s hs it hi=>h.2 it ⟨s,hs,hi⟩⟩
theorem rowM_of {tag call : Int} {x : Stk} {a : Alloc} (h1 : x.num=a.num) (h2 : x.cells.length=a.cells.length) (h3 : okK x=true) (h4 : ∀ s ∈ x.cells,∀ it ∈ s,a.live=true∧it.t < tag∧it.c < call) : rowM tag call x a=true:=by
 unfold rowM itM
 simp only [Bool.and_eq_true,beq_iff_eq,List.all_eq_true,decide_eq_true_eq,List.mem_flatten]
 exact ⟨⟨⟨h1,h2⟩,h3⟩,fun it ⟨s,hs,hi⟩=>h4 s hs it hi⟩
theorem MonOk.stk {m : Mon} (h : MonOk m) {i : Nat} (hi : i < m.mem.al.length) : ∃ x a,m.stks[i]? = some x∧m.mem.al[i]? = some a∧rowM m.tag m.call x a=true:=by
 have ha : m.mem.al[i]? = some m.mem.al[i]:=by simp [hi]
 have hx : m.stks[i]? = some (m.stks[i]'(by rw [h.len];exact hi)):=by simp
 exact ⟨_,_,hx,ha,h.row i _ _ hx ha⟩
theorem MonOk.memOk {m : Mon} (h : MonOk m) : m.mem.ok=true:=h.mem
theorem MonOk.lastlt {m : Mon} (h : MonOk m) : lastR m.run < m.call:=by
 rcases h.last with h1 | h1
 ·have : m.run=[]:=List.eq_nil_of_length_eq_zero h1
  rw [this,lastR_nil];have:=h.call;omega
 ·exact h1
theorem MonOk.enter {m : Mon} (h : MonOk m) : enterR m.run m.call=if m.run.length=32 then ([],18) else (m.run ++ [m.call],0):=by
 have h1:=h.lastlt
 have h2:=h.call
 unfold enterR
 rw [if_pos h.run,if_neg (by omega)]
theorem MonOk.leave {m : Mon} (h : MonOk m) : leaveR m.run=if m.run.length=0 then ([],6) else (m.run.take (m.run.length - 1),0):=by
 unfold leaveR
 rw [if_pos h.run]
theorem findIdx_nums {l : List Stk} {al : List Alloc} (hlen : l.length=al.length) (h : ∀ (i : Nat) (x : Stk) (a : Alloc),l[i]? = some x→al[i]? = some a→x.num=a.num) (n : Int) : l.findIdx? (fun x=>x.num == n)=atNum al n:=by
 unfold atNum
 induction l generalizing al with
 | nil=>cases al with
  | nil=>rfl
  | cons a al=>simp at hlen
 | cons x l ih=>cases al with
  | nil=>simp at hlen
  | cons a al =>
   have h0:=h 0 x a rfl rfl
   rw [List.findIdx?_cons,List.findIdx?_cons,h0,ih (by simpa using hlen) (fun i y b hy hb=>h (i+1) y b (by simpa using hy) (by simpa using hb))]
theorem MonOk.at {m : Mon} (h : MonOk m) (n : Int) : m.stks.findIdx? (fun x=>x.num == n)=atNum m.mem.al n:=findIdx_nums h.len (fun i x a hx ha=>(rowM_parts (h.row i x a hx ha)).1) n
theorem okAl_sorted {next least : Int} {l : List Alloc} (h : okAl next least l=true) : ∀ (i j : Nat) (a b : Alloc),i < j→l[i]? = some a→l[j]? = some b→a.num < b.num∧least≤a.num:=by
 induction l generalizing least with
 | nil=>intro i j a b _ ha;simp at ha
 | cons x l ih =>
  simp only [okAl,Bool.and_eq_true,decide_eq_true_eq] at h
  have ih:=ih h.2
  have hge : ∀ (l : List Alloc) (n : Int),okAl next n l=true → ∀ a ∈ l,n≤a.num:=by
   intro l
   induction l with
   | nil=>intro _ _ a ha;cases ha
   | cons y l ih2 =>
    intro n hn a ha
    simp only [okAl,Bool.and_eq_true,decide_eq_true_eq] at hn
    rcases List.mem_cons.1 ha with rfl | ha
    ·omega
    ·have:=ih2 _ hn.2 a ha;omega
  intro i j a b hij ha hb
  cases j with
  | zero=>omega
  | succ j =>
   cases i with
   | zero =>
    simp only [List.getElem?_cons_zero,Option.some.injEq] at ha
    subst ha
    have:=hge l _ h.2 b (List.mem_of_getElem? (by simpa using hb))
    omega
   | succ i =>
    have:=ih i j a b (by omega) (by simpa using ha) (by simpa using hb)
    omega
theorem keptK_of {P : Stk→Bool} : ∀ {l : List Stk} {al : List Alloc},l.length=al.length→(∀ (i : Nat) (x : Stk) (a : Alloc),l[i]? = some x→al[i]? = some a→P x=a.live)→l.filter P=keptK l al
 | [],[],_,_=>rfl
 | [],_ :: _,h,_=>by simp at h
 | _ :: _,[],h,_=>by simp at h
 | x :: l,a :: al,h,hP=>by
  have h0:=hP 0 x a rfl rfl
  have ih:=keptK_of (P:=P) (l:=l) (al:=al) (by simpa using h) (fun i y b hy hb=>hP (i+1) y b (by simpa using hy) (by simpa using hb))
  rw [List.filter_cons,h0,ih]
  unfold keptK
  rw [List.zip_cons_cons,List.filter_cons]
  cases a.live <;> rfl
def liveNum (al : List Alloc) (n : Int) : Bool:=(al.filter (·.live)).any fun a=>a.num == n
theorem MonOk.live {m : Mon} (h : MonOk m) {i : Nat} {x : Stk} {a : Alloc} (hx : m.stks[i]? = some x) (ha : m.mem.al[i]? = some a) : liveNum m.mem.al x.num=a.live:=by
 have hn:=(rowM_parts (h.row i x a hx ha)).1
 have hok:=h.mem
 unfold okM at hok
 simp only [Bool.and_eq_true] at hok
 have hs:=okAl_sorted hok.2
 unfold liveNum
 cases hl : a.live
 ·rw [List.any_eq_false]
  intro b hb
  obtain ⟨hb1,hb2⟩:=List.mem_filter.1 hb
  obtain ⟨j,hj⟩:=List.mem_iff_getElem?.1 hb1
  rw [beq_iff_eq,hn]
  intro e
  rcases Nat.lt_trichotomy i j with h1 | h1 | h1
  ·have:=(hs i j a b h1 ha hj).1;omega
  ·subst h1;rw [ha] at hj;cases hj;rw [hl] at hb2;cases hb2
  ·have:=(hs j i b a h1 hj ha).1;omega
 ·exact List.any_eq_true.2 ⟨a,List.mem_filter.2 ⟨List.mem_of_getElem? ha,hl⟩,by rw [hn];exact beq_self_eq_true _⟩
theorem MonOk.kept {m : Mon} (h : MonOk m) : m.stks.filter (fun x=>liveNum m.mem.al x.num)=keptK m.stks m.mem.al:=keptK_of h.len fun _ _ _ hx ha=>h.live hx ha
end Go.Proofs.YtoanoodfacmieaaDoor

/- Contracts: asked of layer 33, the program's and the reference's. (printed by gen/use33.py) -/
namespace Go.Proofs.YtoanoodfacmieaaDoor
set_option maxRecDepth 100000
open Go.RowKit
def inR33 (x : Stk) (a n : Int) : Prop:=0≤a∧a < x.cells.length∧1≤n∧n≤x.cells.length - a
instance (x : Stk) (a n : Int) : Decidable (inR33 x a n):=by unfold inR33;infer_instance
def ask33 (x : Stk) (a n : Int) (run : List Int) : Int:=if okR run then (if okK x then (if inR33 x a n then 0 else 6) else 8) else 8
theorem ask33_cases (x : Stk) (a n : Int) (run : List Int) : ask33 x a n run=8∨ask33 x a n run=6∨(ask33 x a n run=0∧okR run=true∧okK x=true∧inR33 x a n):=by
 unfold ask33
 cases okR run
 ·simp
 ·cases okK x
  ·simp
  ·by_cases h : inR33 x a n <;> simp [h]
set_option maxHeartbeats 1600000 in
theorem stacks_asked {l : List (List Item)} {num a n : Int} {run : List Int} {s v : Value} {w : World} (hl : Sts w s l) (hr : Nts w v run) :
  Calls Tryd.prog 28 #[.agg #[.int .i64 num,s],.int .i64 a,.int .i64 n,v] w fun e w'=>e = .returned (.int .i64 (ask33 ⟨num,l⟩ a n run))∧Ext w w':=by
 have hE0:=(Ext.refl w).alloc (.cells #[.int .i64 num,s] 44)
 have hl0:=hl.ext hE0
 have hr0:=hr.ext hE0
 obtain ⟨p,cp,rfl,hlc,hcm,-⟩:=hl.form
 obtain ⟨a2,cp2,rfl,-⟩:=hr.form
 unfold maxLen at hcm
 have bM:=Box.new w 44 #[.int .i64 num,.slice p l.length cp]
 clear hl hr
 cases hok : okR run
 ·have h8:=Lib.hid (runErr_bad hok)
  have hres : Hid (ask33 ⟨num,l⟩ a n run=8):=Hid.mk (by simp [ask33,hok])
  clear hok
  go_enter Tryd.func28,Tryd.ntmps28
  go_wp2_with fail
  refine (guard_Check hr0).mono ?_
  rintro e w1 ⟨rfl,rfl⟩
  rw [h8.out]
  go_wp2
  go_ret
  exact ⟨by rw [hres.out] <;> rfl,hE0⟩
 have h0:=Lib.hid (runErr_ok hok)
 cases hkk : okK ⟨num,l⟩
 ·have h8:=Lib.hid (stkErr_bad hkk)
  have hres : Hid (ask33 ⟨num,l⟩ a n run=8):=Hid.mk (by simp [ask33,hok,hkk])
  clear hok hkk
  go_enter Tryd.func28,Tryd.ntmps28
  go_wp2_with fail
  refine (guard_Check hr0).mono ?_
  rintro e w1 ⟨rfl,rfl⟩
  rw [h0.out]
  go_wp2_with fail
  refine (stacks_Check hl0).mono ?_
  rintro e w2 ⟨rfl,hE2⟩
  rw [h8.out]
  go_wp2
  go_ret
  exact ⟨by rw [hres.out] <;> rfl,hE0.trans hE2⟩
 have hk0:=Lib.hid (stkErr_ok hkk)
 have hres : Hid (ask33 ⟨num,l⟩ a n run=if inR33 ⟨num,l⟩ a n then 0 else 6):=Hid.mk (by rw [ask33,if_pos hok,if_pos hkk])
 clear hok hkk
 by_cases hin : 0≤a∧a < l.length
 ·have hw1 : IntKind.i64.wrap ((l.length : Int) - a)=(l.length : Int) - a:=IntWalk.i64_in _ (by omega)
  have g1 : decide (a < 0)=false:=decide_eq_false (by omega)
  have g2 : decide ((l.length : Int)≤a)=false:=decide_eq_false (by omega)
  by_cases hn1 : n < 1
  ·have g3 : decide (n < 1)=true:=decide_eq_true hn1
   have hf : Hid ((if inR33 ⟨num,l⟩ a n then (0 : Int) else 6)=6):=Hid.mk (if_neg (by unfold inR33;dsimp only;omega))
   go_enter Tryd.func28,Tryd.ntmps28
   go_wp2_with fail
   refine (guard_Check hr0).mono ?_
   rintro e w1 ⟨rfl,rfl⟩
   rw [h0.out]
   go_wp2_with fail
   refine (stacks_Check hl0).mono ?_
   rintro e w2 ⟨rfl,hE2⟩
   rw [hk0.out]
   have m1 : World.cell? w2 ⟨w.heap.size,1,none⟩=some (.slice p l.length cp):=(bM.ext hE2).cell 1
   go_wp2
   go_ret
   exact ⟨by rw [hres.out,hf.out] <;> rfl,hE0.trans hE2⟩
  have g3 : decide (n < 1)=false:=decide_eq_false hn1
  by_cases hn2 : (l.length : Int) - a < n
  ·have g4 : decide ((l.length : Int) - a < n)=true:=decide_eq_true hn2
   have hf : Hid ((if inR33 ⟨num,l⟩ a n then (0 : Int) else 6)=6):=Hid.mk (if_neg (by unfold inR33;dsimp only;omega))
   go_enter Tryd.func28,Tryd.ntmps28
   go_wp2_with fail
   refine (guard_Check hr0).mono ?_
   rintro e w1 ⟨rfl,rfl⟩
   rw [h0.out]
   go_wp2_with fail
   refine (stacks_Check hl0).mono ?_
   rintro e w2 ⟨rfl,hE2⟩
   rw [hk0.out]
   have m1 : World.cell? w2 ⟨w.heap.size,1,none⟩=some (.slice p l.length cp):=(bM.ext hE2).cell 1
   go_wp2
   go_ret
   exact ⟨by rw [hres.out,hf.out] <;> rfl,hE0.trans hE2⟩
  ·have g4 : decide ((l.length : Int) - a < n)=false:=decide_eq_false hn2
   have hf : Hid ((if inR33 ⟨num,l⟩ a n then (0 : Int) else 6)=0):=Hid.mk (if_pos (by unfold inR33;dsimp only;omega))
   go_enter Tryd.func28,Tryd.ntmps28
   go_wp2_with fail
   refine (guard_Check hr0).mono ?_
   rintro e w1 ⟨rfl,rfl⟩
   rw [h0.out]
   go_wp2_with fail
   refine (stacks_Check hl0).mono ?_
   rintro e w2 ⟨rfl,hE2⟩
   rw [hk0.out]
   have m1 : World.cell? w2 ⟨w.heap.size,1,none⟩=some (.slice p l.length cp):=(bM.ext hE2).cell 1
   go_wp2
   go_ret
   exact ⟨by rw [hres.out,hf.out] <;> rfl,hE0.trans hE2⟩
 ·have hf : Hid ((if inR33 ⟨num,l⟩ a n then (0 : Int) else 6)=6):=Hid.mk (if_neg (by unfold inR33;dsimp only;omega))
  rcases Int.lt_or_le a 0 with ha | ha
  ·have g1 : decide (a < 0)=true:=decide_eq_true ha
   go_enter Tryd.func28,Tryd.ntmps28
   go_wp2_with fail
   refine (guard_Check hr0).mono ?_
   rintro e w1 ⟨rfl,rfl⟩
   rw [h0.out]
   go_wp2_with fail
   refine (stacks_Check hl0).mono ?_
   rintro e w2 ⟨rfl,hE2⟩
   rw [hk0.out]
   have m1 : World.cell? w2 ⟨w.heap.size,1,none⟩=some (.slice p l.length cp):=(bM.ext hE2).cell 1
   go_wp2
   go_ret
   exact ⟨by rw [hres.out,hf.out] <;> rfl,hE0.trans hE2⟩
  ·have g1 : decide (a < 0)=false:=decide_eq_false (by omega)
   have g2 : decide ((l.length : Int)≤a)=true:=decide_eq_true (by omega)
   go_enter Tryd.func28,Tryd.ntmps28
   go_wp2_with fail
   refine (guard_Check hr0).mono ?_
   rintro e w1 ⟨rfl,rfl⟩
   rw [h0.out]
   go_wp2_with fail
   refine (stacks_Check hl0).mono ?_
   rintro e w2 ⟨rfl,hE2⟩
   rw [hk0.out]
   have m1 : World.cell? w2 ⟨w.heap.size,1,none⟩=some (.slice p l.length cp):=(bM.ext hE2).cell 1
   go_wp2
   go_ret
   exact ⟨by rw [hres.out,hf.out] <;> rfl,hE0.trans hE2⟩
end Go.Proofs.YtoanoodfacmieaaDoor

/- A stack of the call's own stacks is set; what an access of a range gives; no program in sight. -/
namespace Go.Proofs.YtoanoodfacmieaaDoor
set_option maxRecDepth 100000
open Go.RowKit
theorem trows_srow : ∀ {vs : List Value} {l : List (List Item)},vs.length=l.length→trows srow vs l=vs
 | [],[],_=>rfl
 | v :: vs,a :: l,h=>by
  have ih:=trows_srow (vs:=vs) (l:=l) (by simpa using h)
  unfold trows at ih ⊢
  simp only [List.zip_cons_cons,List.flatMap_cons,srow] at ih ⊢
  rw [ih]
  rfl
theorem OwnS.set {w wx : World} {B g cap : Nat} {vs : List Value} {l : List (List Item)} {s : Value} {a : List Item} {j : Nat} (h : OwnS w B (.slice (some ⟨g,0,none⟩) l.length cap) vs l) (hE : Ext w wx) (hR : OwnI wx B s a)
  (hs : ∀ b,s.ownBlock=some b→w.heap.size≤b) (hj : j < l.length) : OwnS (wx.setCell ⟨g,j,none⟩ s) B (.slice (some ⟨g,0,none⟩) (l.set j a).length cap) (vs.set j s) (l.set j a):=by
 have hl:=(All2.iff.1 h.inner).1
 have hO:=(h.outer.ext hE).set j s
 have hg:=(Own.lt h.outer (g:=g) rfl).2
 have hS : ExtBut (· = g) wx (wx.setCell ⟨g,j,none⟩ s):=ExtBut.setCell wx ⟨g,j,none⟩ s
 have hold : ∀ x ∈ vs,∀ b,x.ownBlock=some b→B≤b∧b < w.heap.size:=h.inner_lt
 rw [trows_srow hl] at hO
 refine ⟨?_,?_,?_,?_⟩
 ·rw [List.length_set,trows_srow (by simpa using hl)]
  exact hO
 ·refine All2.iff.2 ⟨by simpa using hl,fun i x y hx hy => ?_⟩
  by_cases e : i=j
  ·subst e
   rw [List.getElem?_set_self (by omega)] at hx hy
   cases hx
   cases hy
   exact OwnI.keep hR hS (fun b e1 e2=>by have:=hs b e1;have e2' : b=g:=e2;omega)
  ·rw [List.getElem?_set_ne (fun e'=>e e'.symm)] at hx hy
   refine OwnI.keep (OwnI.keep ((All2.iff.1 h.inner).2 i x y hx hy) (ExtBut.of_ext (S:=fun _=>False) hE) (fun _ _ h=>h)) hS (fun b e1 e2 => ?_)
   have e2' : b=g:=e2
   subst e2'
   exact h.far x (List.mem_of_getElem? hx) b e1 rfl
 ·intro i k x y hne hx hy b ex ey
  by_cases e1 : i=j
  ·subst e1
   rw [List.getElem?_set_self (by omega)] at hx
   cases hx
   rw [List.getElem?_set_ne hne] at hy
   have:=(hold y (List.mem_of_getElem? hy) b ey).2
   have:=hs b ex
   omega
  ·rw [List.getElem?_set_ne (fun e'=>e1 e'.symm)] at hx
   by_cases e2 : k=j
   ·subst e2
    rw [List.getElem?_set_self (by omega)] at hy
    cases hy
    have:=(hold x (List.mem_of_getElem? hx) b ex).2
    have:=hs b ey
    omega
   ·rw [List.getElem?_set_ne (fun e'=>e2 e'.symm)] at hy
    exact h.apart i k x y hne hx hy b ex ey
 ·intro x hx b e1 e2
  cases e2
  rcases List.mem_or_eq_of_mem_set hx with h1 | rfl
  ·exact h.far x h1 _ e1 rfl
  ·have : w.heap.size≤g:=hs _ e1
   omega
def eachGo (f : List Item→List Item × Int × Int) (num : Int) (cells : List (List Item)) : Nat→Nat→List (List Item)→Int→Stk × Int × Int
 | 0,_,out,why=>if why=0 then (⟨num,out⟩,0,0) else (Stk.zero,why,0)
 | m+1,j,out,why=>if (f (cells.getD j [])).2.2=0 then eachGo f num cells m (j+1) (out.set j (f (cells.getD j [])).1) (if why=0 then (f (cells.getD j [])).2.1 else why) else (Stk.zero,0,(f (cells.getD j [])).2.2)
theorem eachGo_end {f : List Item→List Item × Int × Int} {num : Int} {cells out : List (List Item)} {j : Nat} : eachGo f num cells 0 j out 0=(⟨num,out⟩,0,0):=rfl
theorem eachGo_why {f : List Item→List Item × Int × Int} {num why : Int} {cells out : List (List Item)} {j : Nat} (h : why≠0) : eachGo f num cells 0 j out why=(Stk.zero,why,0):=if_neg h
theorem eachGo_bad {f : List Item→List Item × Int × Int} {num why : Int} {cells out : List (List Item)} {m j : Nat} {x s : List Item} {v e : Int} (hx : cells[j]? = some x) (hf : f x=(s,v,e)) (he : e≠0) :
  eachGo f num cells (m+1) j out why=(Stk.zero,0,e):=by
 have h : cells.getD j []=x:=by rw [List.getD_eq_getElem?_getD,hx];rfl
 rw [eachGo,h,hf,if_neg he]
theorem eachGo_ok {f : List Item→List Item × Int × Int} {num why : Int} {cells out : List (List Item)} {m j : Nat} {x s : List Item} {v : Int} (hx : cells[j]? = some x) (hf : f x=(s,v,0)) :
  eachGo f num cells (m+1) j out why=eachGo f num cells m (j+1) (out.set j s) (if why=0 then v else why):=by
 have h : cells.getD j []=x:=by rw [List.getD_eq_getElem?_getD,hx];rfl
 rw [eachGo,h,hf,if_pos rfl]
def eachR (f : List Item→List Item × Int × Int) (x : Stk) (a n : Nat) : Stk × Int × Int:=eachGo f x.num x.cells n a x.cells 0
end Go.Proofs.YtoanoodfacmieaaDoor

/- Contracts: one and ranged of the reference of layer 33. (printed by gen/ranged33.py) -/
namespace Go.Proofs.YtoanoodfacmieaaDoor
set_option maxRecDepth 100000
open Go.RowKit
def oneR (kind tag : Int) (it : Item) (run : List Int) (l : List Item) : List Item × Int × Int:=if kind=0 then useR l tag false run else if kind=9 then useR l tag true run else tagR l kind tag it run
end Go.Proofs.YtoanoodfacmieaaDoor

/- Contracts: each of layer 33, with a function value. (printed by gen/each33.py) -/
namespace Go.Proofs.YtoanoodfacmieaaDoor
set_option maxRecDepth 100000
open Go.RowKit
def PredU (g : Nat) (cap : Array Value) (W : World) (f : List Item→List Item × Int × Int) : Prop :=
 ∀ (x : List Item) (s : Value) (w : World),Ext W w→Its w s x→Calls Tryd.prog g (#[s] ++ cap) w (RetSO w (f x).1 (f x).2.1 (f x).2.2)
set_option maxHeartbeats 3200000 in
theorem stacks_each {gf : Nat} {cap : Array Value} {f : List Item→List Item × Int × Int} {l : List (List Item)} {num : Int} {fa n : Nat} {s : Value} {w : World} (hg : ∀ args w,(callFunc gf args).run Tryd.prog w = .ok (.enter gf args) w) (hp : PredU gf cap w f)
  (hsm : l.length≤2 ∧ ∀ x ∈ l,x.length≤600) (hin : fa < l.length∧1≤n∧n≤l.length - fa) (hl : Sts w s l) :
  Calls Tryd.prog 29 #[.agg #[.int .i64 num,s],.int .i64 fa,.int .i64 n,.func (.func gf) #[] cap] w (RetKW w (eachR f ⟨num,l⟩ fa n).1 (eachR f ⟨num,l⟩ fa n).2.1 (eachR f ⟨num,l⟩ fa n).2.2):=by
 have hs : l.length≤1000000 ∧ ∀ x ∈ l,x.length≤1000000:=⟨by omega,fun x hx=>by have:=hsm.2 x hx;omega⟩
 obtain ⟨ai,az,hai,haz,hai3,haz3,haby⟩:=Stack.infoE
 have hai:=Lib.hid hai;have haz:=Lib.hid haz;have hai3:=Lib.hid hai3;have haz3:=Lib.hid haz3;have haby:=Lib.hid haby
 have hform:=hl.form
 obtain ⟨a,cp,rfl,hlc,hcm,-⟩:=hform
 unfold maxLen at hcm
 have hL:=Lib.hid hl
 have hsm:=Lib.hid hs.1
 have hE0:=(((Ext.refl w).alloc (.cells #[.int .i64 num,.slice a l.length cp] 44)).alloc (.cells #[.int .i64 0,.slice none 0 0] 44)).alloc (.cells #[.int .i64 num,.slice none 0 0] 44)
 have bM:=((Box.new w 44 #[.int .i64 num,.slice a l.length cp]).ext ((Ext.refl _).alloc (.cells #[.int .i64 0,.slice none 0 0] 44))).ext ((Ext.refl _).alloc (.cells #[.int .i64 num,.slice none 0 0] 44))
 have bR:=(Box.new (World.alloc w (.cells #[.int .i64 num,.slice a l.length cp] 44)) 44 #[.int .i64 0,.slice none 0 0]).ext ((Ext.refl _).alloc (.cells #[.int .i64 num,.slice none 0 0] 44))
 have bO:=Box.new (World.alloc (World.alloc w (.cells #[.int .i64 num,.slice a l.length cp] 44)) (.cells #[.int .i64 0,.slice none 0 0] 44)) 44 #[.int .i64 num,.slice none 0 0]
 simp only [World.size_alloc] at bR bO
 have hH:=Lib.hid (And.intro bM (And.intro bR bO))
 clear bM bR bO hl
 go_enter Tryd.func29,Tryd.ntmps29
 go_wp2
 obtain ⟨w1,hw1⟩ : ∃ w1,(World.alloc (World.alloc (World.alloc w (.cells #[.int .i64 num,.slice a l.length cp] 44)) (.cells #[.int .i64 0,.slice none 0 0] 44)) (.cells #[.int .i64 num,.slice none 0 0] 44))=w1:=⟨_,rfl⟩
 have hsz1 : w1.heap.size=w.heap.size+3:=by rw [← hw1];simp
 rw [hw1] at hE0 hH ⊢
 clear hw1
 have hsz1:=Lib.hid hsz1
 go_loopw [25] (fun iv wr => ∃ (k : Nat) (v : Value) (vs : List Value),k≤l.length∧iv = .int .i64 k∧Box wr (w.heap.size+1+1) 44 #[.int .i64 num,v]∧OwnS wr w1.heap.size v vs (l.take k)∧ExtBut (· = w.heap.size+1+1) w1 wr) (fun iv _=>l.length - (intOf iv).toNat)
 case atStart=>exact ⟨0,_,[],Nat.zero_le _,rfl,hH.out.2.2,OTb.nil _ _,ExtBut.refl _ _⟩
 case round =>
  obtain ⟨k,v,vs,hk,rfl,bO,hT,hX⟩:=hrel
  have bM:=hH.out.1.but hX (by omega)
  have bR:=hH.out.2.1.but hX (by omega)
  have hF : Ext w wr:=ExtBut.ext hE0 hX (fun x h=>by omega)
  have hlk : (l.take k).length=k:=by rw [List.length_take];omega
  have hOv:=hT.outer
  rw [hlk] at hOv
  obtain ⟨av,cv,rfl,hcv1,hcv2,-⟩:=hOv.sl.slice_form
  unfold maxLen at hcv2
  have m0 : wr.cell? ⟨w.heap.size,1,none⟩=some (.slice a l.length cp):=bM.cell 1
  have o0 : wr.cell? ⟨w.heap.size+1+1,1,none⟩=some (.slice av k cv):=bO.cell 1
  have hBl:=bO.lt
  by_cases hlt : k < l.length
  ·obtain ⟨x,hx⟩ : ∃ x,l[k]? = some x:=⟨l[k],by simp [hlt]⟩
   obtain ⟨b,off,sv,rfl,hbb,d0,hcl⟩:=(hL.out.ext hF).cell hx
   obtain ⟨ca,ccp,rfl,hclc,hccm,-⟩:=hcl.form
   have hxs : x.length≤1000000:=hs.2 x (List.mem_of_getElem? hx)
   have hA:=Lib.hid (And.intro hx (And.intro hT (And.intro hX (And.intro hOv (And.intro bO hlk)))))
   clear hx hT hX hOv bO hlk bM bR hs hbb
   go_wp2
   have hk6 : k≤1000000:=by have:=hsm.out;omega
   go_wp2
   go_region_law (first | (rw [if_pos (by rfl)];refine wp_append_any (.tmp 30) (.tmp 33) 42 42 rfl rfl rfl (B:=w1.heap.size) (e:=57) (n:=k) (m:=1) (xs:=trows srow vs (l.take k)) (ys:=srow (.slice an x.length cn) x) Tryd.underlying42 Tryd.underlying42 hai.out haz.out hai3.out haz3.out ?_ ?_ ?_ ?_ ?_ ?_ ?_;(first | exact hA.out.2.2.2.1.ext hB.out.1 | exact hA.out.2.2.2.1.ext hB.out.1.drew);(first | exact (Own.lit' (B:=0) (e:=57) (k:=1) w4 #[.slice an x.length cn] 1 (Nat.zero_le _) (by simp [maxLen]) rfl).sl | exact (Own.lit' (B:=0) (e:=57) (k:=1) w4 #[.slice an x.length cn] 1 (Nat.zero_le _) (by simp [maxLen]) rfl).sl.ext (Ext.refl _).drew);(simp [srow,Value.oneCell']);(simp [maxLen];omega);(rw [haby.out];omega);(exact Nat.le_trans hA.out.2.2.1.size hB.out.1.size);intro v' w6 hOv hKv hbv _;(obtain ⟨av',cv',rfl,-⟩:=hOv.sl.slice_form);(have hvB:=fun g e=>(hA.out.2.2.2.1.lt (g:=g) e).1);(have bO6 : Box w6 (w.heap.size+1+1) 44 #[.int .i64 num,.slice av k cv]:=(hA.out.2.2.2.2.1.ext hB.out.1).but (ExtBut.of_keeps hKv) (fun h=>by have:=hvB _ h;have:=hsz1.out;omega));(have o6 : w6.cell? ⟨w.heap.size+1+1,1,none⟩=some (.slice av k cv):=bO6.cell 1);(have of6:=bO6.frozen 1);(have hC:=Lib.hid (And.intro hOv (And.intro hKv (And.intro hbv bO6))));clear hOv hKv hbv bO6 hvB) | (go_simp;go_at_call 50;refine (clone_Stack (hcl.ext ?_) hxs).mono ?_;(first | exact (Ext.refl _).drew | exact Ext.refl _);rintro e w4 ⟨sn,rfl,hOn,hE4⟩;(have hE4' : Ext wr w4:=(by first | exact hE4 | exact ((Ext.refl wr).drew).trans hE4));(have hslt : ∀ g,sn.ownBlock=some g→wr.heap.size≤g∧g < w4.heap.size:=fun g e=>(Own.lt (g:=g) hOn) e);(have hOn2 : OwnI w4 wr.heap.size sn x:=hOn);(obtain ⟨an,cn,rfl,hcn,hcn2,-⟩:=(Own.sl hOn).slice_form);(have o4:=hE4'.cell o0);(have hBl4 : w.heap.size+1+1 < w4.heap.size:=Nat.lt_of_lt_of_le hBl hE4'.size);(have hB:=Lib.hid (And.intro (hE4'.alloc (.cells #[.slice an x.length cn] 57)) (And.intro hOn2 (And.intro hslt hE4'))));clear hOn hslt hOn2 hE4 hE4'))
   all_goals
    have hOv:=hC.out.1
    have hKv : Keeps (w4.alloc (.cells #[.slice an x.length cn] 57)) w6 w1.heap.size (.slice av k cv):=hC.out.2.1
    have hlk:=hA.out.2.2.2.2.2
    have hP : OwnS w6 w1.heap.size (.slice av' (k+1) cv') (vs ++ [.slice an x.length cn]) (l.take k ++ [x]):=OwnS.push hA.out.2.1 hB.out.1 ((OwnI.mono hB.out.2.1 (by have:=hA.out.2.2.1.size;omega)).ext ((Ext.refl _).alloc _)) (fun g e=>(hB.out.2.2.1 g e).1) (by rw [hlk];exact hOv) hKv hC.out.2.2.1
    have htk : l.take k ++ [x]=l.take (k+1):=by rw [List.take_add_one,hA.out.1];rfl
    rw [htk] at hP
    have hvB:=fun g e=>(hA.out.2.2.2.1.lt (g:=g) e).1
    have hX6:=((hA.out.2.2.1.trans (ExtBut.of_ext hB.out.1)).trans' (ExtBut.of_keeps hKv) (fun x hx h=>by have:=hvB _ h;omega)).trans (ExtBut.setCell w6 ⟨w.heap.size+1+1,1,none⟩ (.slice av' (k+1) cv'))
    have hP7:=OwnS.but hP (ExtBut.setCell w6 ⟨w.heap.size+1+1,1,none⟩ (.slice av' (k+1) cv')) (fun g e h=>by have:=hsz1.out;have h' : g=w.heap.size+1+1:=h;omega)
    have bO7:=hC.out.2.2.2.set 1 (.slice av' (k+1) cv')
    have hR:=Lib.hid (And.intro bO7 (And.intro hP7 hX6))
    clear hvB hX6 hP7 bO7 hP hOv hKv hlk htk hC o6 of6
    go_wp2
    go_roundw
    case rel=>exact ⟨k+1,_,_,by omega,by go_num,hR.out.1,hR.out.2.1,hR.out.2.2⟩
    case measure=>simp [intOf];omega
  ·have hkl : k=l.length:=by omega
   subst hkl
   have hkk : decide ((l.length : Int) < (l.length : Int))=false:=decide_eq_false (by omega)
   rw [List.take_length] at hT
   obtain ⟨g,cg,hform,hcg,hcg2,hg1,hg2⟩:=Own.form hT.outer (show 0 < l.length by omega)
   cases hform
   have hst:=Lib.hid (And.intro bM (And.intro bR (And.intro bO (And.intro hT hX))))
   have hL0:=hL
   clear bM bR bO hT hX hOv hlk hlt hs
   go_wp2
   clear m0 o0 hBl
   obtain ⟨w3,hw3⟩ : ∃ z,wr=z:=⟨_,rfl⟩
   rw [hw3] at hst hF hg2 ⊢
   clear hw3
   go_loopw [14,38] (fun fv iv wr => ∃ (i : Nat) (why : Int) (out : List (List Item)) (vs : List Value),i≤n∧iv = .int .i64 i∧fv = .int .u8 why∧out.length=l.length∧OwnS wr w1.heap.size (.slice (some ⟨g,0,none⟩) l.length cv) vs out∧ExtBut (· = g) w3 wr∧Hid (eachR f ⟨num,l⟩ fa n=eachGo f num l (n - i) (fa+i) out why)) (fun _ iv _=>n - (intOf iv).toNat)
   case atStart=>exact ⟨0,0,l,_,Nat.zero_le _,rfl,rfl,rfl,hst.out.2.2.2.1,ExtBut.refl _ _,Hid.mk rfl⟩
   case round =>
    obtain ⟨i,why,out,vs,hi,rfl,rfl,hol,hO,hX,hN⟩:=hrel
    have hz1:=hsz1.out
    have bM:=hst.out.1.but hX (by omega)
    have bR:=hst.out.2.1.but hX (by omega)
    have bO:=hst.out.2.2.1.but hX (by omega)
    have hF4 : Ext w wr:=ExtBut.ext hF hX (fun x h=>by omega)
    have m1 : wr.cell? ⟨w.heap.size,1,none⟩=some (.slice a l.length cp):=bM.cell 1
    by_cases hlt : i < n
    ·have hlt' : decide (i < n)=true:=decide_eq_true hlt
     obtain ⟨j,hj⟩ : ∃ j,j=fa+i:=⟨_,rfl⟩
     have hwr : IntKind.i64.wrap ((fa : Int)+(i : Int))=(fa : Int)+(i : Int):=IntWalk.i64_in _ (by omega)
     obtain ⟨x,hx⟩ : ∃ x,l[j]? = some x:=⟨l[j]'(by omega),by simp [show j < l.length by omega]⟩
     obtain ⟨b,off,sv,rfl,hbb,d0,hcl⟩:=(hL0.out.ext hF4).cell hx
     have hX0:=Lib.hid hx
     have d0' : wr.cell? ⟨b,off+(fa+i),none⟩=some sv:=by rw [← hj];exact d0
     have hjl' : fa+i < l.length:=by omega
     obtain ⟨ca,ccp,rfl,-⟩:=hcl.form
     obtain ⟨⟨s2,v2,e2⟩,hf⟩ : ∃ z,f x=z:=⟨_,rfl⟩
     replace hf:=Lib.hid hf
     have hC:=Lib.hid hcl
     have hA:=Lib.hid (And.intro hO (And.intro hX (And.intro bO bR)))
     have hjl : j < l.length:=by omega
     have hstep : n - i=(n - (i+1))+1:=by omega
     rw [hstep,← hj] at hN
     clear hx hcl hbb hO hX bM bR bO hstep
     by_cases he : e2=0
     ·subst he
      go_wp2_with fail
      refine (hp x _ wr hF4 hC.out).mono ?_
      rintro e wn ⟨vo,rfl,hvo,hB⟩
      rw [hf.out] at hvo ⊢
      obtain ⟨bo,co,rfl,-⟩:=hvo.its.form
      dsimp only at hvo ⊢
      replace hvo:=Lib.hid hvo
      have bO5:=hA.out.2.2.1.ext hB
      have o1 : wn.cell? ⟨w.heap.size+1+1,1,none⟩=some (.slice (some ⟨g,0,none⟩) l.length cv):=bO5.cell 1
      have hOo:=hA.out.1.outer
      rw [hol] at hOo
      have hfr:=(Own.ext hOo hB).frozen j
      have hgl : g < wn.heap.size:=by have:=hB.size;have:=hA.out.2.1.size;omega
      obtain ⟨y,hy⟩ : ∃ y,out[j]? = some y:=⟨out[j]'(by omega),by simp [show j < out.length by omega]⟩
      obtain ⟨b',off',sv',hbe,hb',c0,-⟩:=(hA.out.1.sts.ext hB).cell hy
      cases hbe
      rw [Nat.zero_add] at c0
      have hO5 : OwnS (wn.setCell ⟨g,j,none⟩ (.slice bo s2.length co)) w1.heap.size (.slice (some ⟨g,0,none⟩) l.length cv) (vs.set j (.slice bo s2.length co)) (out.set j s2):=by
       have h:=OwnS.set (show OwnS wr w1.heap.size (.slice (some ⟨g,0,none⟩) out.length cv) vs out by rw [hol];exact hA.out.1) hB (OwnI.mono hvo.out (by have:=hA.out.2.1.size;omega)) (fun b e=>(Own.lt hvo.out e).1) (show j < out.length by omega)
       rw [List.length_set,hol] at h
       exact h
      have hX5:=(hA.out.2.1.trans (ExtBut.of_ext hB)).trans (ExtBut.setCell wn ⟨g,j,none⟩ (.slice bo s2.length co))
      have hN2 : eachR f ⟨num,l⟩ fa n=eachGo f num l (n - (i+1)) (fa+(i+1)) (out.set j s2) (if why=0 then v2 else why):=by
       rw [hN.out,eachGo_ok hX0.out hf.out,show fa+(i+1)=j+1 by omega]
      have hZ:=Lib.hid (And.intro hO5 (And.intro hX5 hN2))
      clear hOo hb' hy hO5 hX5 hN2 bO5
      have hfr' : wn.frozen? ⟨g,fa+i,none⟩=false:=by rw [← hj];exact hfr
      have c0' : wn.cell? ⟨g,fa+i,none⟩=some sv':=by rw [← hj];exact c0
      have hji : (fa : Int)+(i : Int)=(j : Int):=by omega
      have hi0 : (0 : Int)≤(fa : Int)+(i : Int):=by omega
      have hi1 : (fa : Int)+(i : Int) < (l.length : Int):=by omega
      have hi2 : ((fa : Int)+(i : Int)).toNat=fa+i:=by omega
      rw [hj] at hZ
      clear hji
      by_cases hwy : why=0
      ·subst hwy
       go_wp2
       go_roundw
       case rel=>exact ⟨i+1,v2,_,_,by omega,by go_num,rfl,by simp [hol],hZ.out.1,hZ.out.2.1,Hid.mk hZ.out.2.2⟩
       case measure=>simp [intOf];omega
      ·have hw1 : (why == 0)=false:=by simp [hwy]
       go_wp2
       go_roundw
       case rel=>exact ⟨i+1,why,_,_,by omega,by go_num,rfl,by simp [hol],hZ.out.1,hZ.out.2.1,Hid.mk (by rw [hZ.out.2.2,if_neg hwy])⟩
       case measure=>simp [intOf];omega
     ·have he1 : (e2 != 0)=true:=by simp [he]
      have hres : Hid (eachR f ⟨num,l⟩ fa n=(Stk.zero,0,e2)):=Hid.mk (by rw [hN.out,eachGo_bad hX0.out hf.out he])
      go_wp2_with fail
      refine (hp x _ wr hF4 hC.out).mono ?_
      rintro e wn ⟨vo,rfl,hvo,hB⟩
      rw [hf.out] at hvo ⊢
      obtain ⟨bo,co,rfl,-⟩:=hvo.its.form
      dsimp only at hvo ⊢
      have bR5:=hA.out.2.2.2.ext hB
      have r0 : wn.cell? ⟨w.heap.size+1,0,none⟩=some (.int .i64 0):=bR5.cell 0
      have r1 : wn.cell? ⟨w.heap.size+1,1,none⟩=some (.slice none 0 0):=bR5.cell 1
      have rf0:=bR5.frozen 0
      have rf1:=bR5.frozen 1
      have hF5:=hF4.trans hB
      clear bR5
      go_wp2
      rw [hres.out]
      refine bodyPost_ret (v := .tuple #[.agg #[.int .i64 0,.slice none 0 0],.int .u8 0,.int .i64 e2]) (by simp [results,Tryd.f29,go_sem,r0,r1]) rfl ⟨_,[],rfl,OwnS.nil _ _,?_⟩
      first | exact hF5 | exact (hF5.setCell (by simp) _).setCell (by simp) _
    ·have hlt' : decide (i < n)=false:=decide_eq_false hlt
     have hm0 : n - i=0:=by omega
     rw [hm0] at hN
     have r0 : wr.cell? ⟨w.heap.size+1,0,none⟩=some (.int .i64 0):=bR.cell 0
     have r1 : wr.cell? ⟨w.heap.size+1,1,none⟩=some (.slice none 0 0):=bR.cell 1
     have rf0:=bR.frozen 0
     have rf1:=bR.frozen 1
     have o0 : wr.cell? ⟨w.heap.size+1+1,0,none⟩=some (.int .i64 num):=bO.cell 0
     have o1 : wr.cell? ⟨w.heap.size+1+1,1,none⟩=some (.slice (some ⟨g,0,none⟩) l.length cv):=bO.cell 1
     have hO':=Lib.hid hO
     clear hO hm0 hlt bM bR bO
     by_cases hwy : why=0
     ·subst hwy
      have hres : Hid (eachR f ⟨num,l⟩ fa n=(⟨num,out⟩,0,0)):=Hid.mk (by rw [hN.out,eachGo_end])
      go_wp2
      rw [hres.out]
      have hY:=((ExtBut.setCell wr ⟨w.heap.size+1,0,none⟩ (.int .i64 num)).mono (S':=fun b=>b=w.heap.size+1) (fun x _ h=>h)).trans ((ExtBut.setCell _ ⟨w.heap.size+1,1,none⟩ (.slice (some ⟨g,0,none⟩) l.length cv)).mono (S':=fun b=>b=w.heap.size+1) (fun x _ h=>h))
      refine bodyPost_ret (v := .tuple #[.agg #[.int .i64 num,.slice (some ⟨g,0,none⟩) l.length cv],.int .u8 0,.int .i64 0]) (by simp [results,Tryd.f29,go_sem,r0,r1]) rfl ⟨_,vs,rfl,OwnS.mono (B':=w.heap.size) (OwnS.but hO'.out hY (fun g e h=>by omega)) (by omega),ExtBut.ext hF4 hY (fun x h=>by omega)⟩
     ·have hw1 : (why != 0)=true:=by simp [hwy]
      have hres : Hid (eachR f ⟨num,l⟩ fa n=(Stk.zero,why,0)):=Hid.mk (by rw [hN.out,eachGo_why hwy])
      clear hwy
      go_wp2
      rw [hres.out]
      refine bodyPost_ret (v := .tuple #[.agg #[.int .i64 0,.slice none 0 0],.int .u8 why,.int .i64 0]) (by simp [results,Tryd.f29,go_sem,r0,r1]) rfl ⟨_,[],rfl,OwnS.nil _ _,?_⟩
      first | exact hF4 | exact (hF4.setCell (by simp) _).setCell (by simp) _
end Go.Proofs.YtoanoodfacmieaaDoor
