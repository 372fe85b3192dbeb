/- Several texts in one: StkH, StkI, CelW9, CelWA. -/
import Derived.Test.YtoanoodfacmieaaGreatDoorQ07
import Derived.Deep.RegionLaw
import Derived.Test.YtoanoodfacmieaaGreatDoorQ06
/- Contracts: each of layer 33, with a function value. (printed by gen/each33.py) -/
namespace Go.Proofs.YtoanoodfacmieaaGreatDoor
set_option maxRecDepth 100000
open Go.RowKit
def PredU (g : Nat) (cap : Array Value) (W : World) (f : List Item→List Item × Int × Int) : Prop :=
 ∀ (x : List Item) (s : Value) (w : World),Ext W w→Its w s x→Calls Tryz.prog g (#[s] ++ cap) w (RetSO w (f x).1 (f x).2.1 (f x).2.2)
set_option maxHeartbeats 3200000 in
theorem stacks_each {gf : Nat} {cap : Array Value} {f : List Item→List Item × Int × Int} {l : List (List Item)} {num : Int} {fa n : Nat} {s : Value} {w : World} (hg : ∀ args w,(callFunc gf args).run Tryz.prog w = .ok (.enter gf args) w) (hp : PredU gf cap w f)
  (hsm : l.length≤2 ∧ ∀ x ∈ l,x.length≤600) (hin : fa < l.length∧1≤n∧n≤l.length - fa) (hl : Sts w s l) :
  Calls Tryz.prog 61 #[.agg #[.int .i64 num,s],.int .i64 fa,.int .i64 n,.func (.func gf) #[] cap] w (RetKW w (eachR f ⟨num,l⟩ fa n).1 (eachR f ⟨num,l⟩ fa n).2.1 (eachR f ⟨num,l⟩ fa n).2.2):=by
 have hs : l.length≤1000000 ∧ ∀ x ∈ l,x.length≤1000000:=⟨by omega,fun x hx=>by have:=hsm.2 x hx;omega⟩
 obtain ⟨ai,az,hai,haz,hai3,haz3,haby⟩:=Stack.infoE
 have hai:=Lib.hid hai;have haz:=Lib.hid haz;have hai3:=Lib.hid hai3;have haz3:=Lib.hid haz3;have haby:=Lib.hid haby
 have hform:=hl.form
 obtain ⟨a,cp,rfl,hlc,hcm,-⟩:=hform
 unfold maxLen at hcm
 have hL:=Lib.hid hl
 have hsm:=Lib.hid hs.1
 have hE0:=(((Ext.refl w).alloc (.cells #[.int .i64 num,.slice a l.length cp] 69)).alloc (.cells #[.int .i64 0,.slice none 0 0] 69)).alloc (.cells #[.int .i64 num,.slice none 0 0] 69)
 have bM:=((Box.new w 69 #[.int .i64 num,.slice a l.length cp]).ext ((Ext.refl _).alloc (.cells #[.int .i64 0,.slice none 0 0] 69))).ext ((Ext.refl _).alloc (.cells #[.int .i64 num,.slice none 0 0] 69))
 have bR:=(Box.new (World.alloc w (.cells #[.int .i64 num,.slice a l.length cp] 69)) 69 #[.int .i64 0,.slice none 0 0]).ext ((Ext.refl _).alloc (.cells #[.int .i64 num,.slice none 0 0] 69))
 have bO:=Box.new (World.alloc (World.alloc w (.cells #[.int .i64 num,.slice a l.length cp] 69)) (.cells #[.int .i64 0,.slice none 0 0] 69)) 69 #[.int .i64 num,.slice none 0 0]
 simp only [World.size_alloc] at bR bO
 have hH:=Lib.hid (And.intro bM (And.intro bR bO))
 clear bM bR bO hl
 go_enter Tryz.func61,Tryz.ntmps61
 go_wp2
 obtain ⟨w1,hw1⟩ : ∃ w1,(World.alloc (World.alloc (World.alloc w (.cells #[.int .i64 num,.slice a l.length cp] 69)) (.cells #[.int .i64 0,.slice none 0 0] 69)) (.cells #[.int .i64 num,.slice none 0 0] 69))=w1:=⟨_,rfl⟩
 have hsz1 : w1.heap.size=w.heap.size+3:=by rw [← hw1];simp
 rw [hw1] at hE0 hH ⊢
 clear hw1
 have hsz1:=Lib.hid hsz1
 go_loopw [25] (fun iv wr => ∃ (k : Nat) (v : Value) (vs : List Value),k≤l.length∧iv = .int .i64 k∧Box wr (w.heap.size+1+1) 69 #[.int .i64 num,v]∧OwnS wr w1.heap.size v vs (l.take k)∧ExtBut (· = w.heap.size+1+1) w1 wr) (fun iv _=>l.length - (intOf iv).toNat)
 case atStart=>exact ⟨0,_,[],Nat.zero_le _,rfl,hH.out.2.2,OTb.nil _ _,ExtBut.refl _ _⟩
 case round =>
  obtain ⟨k,v,vs,hk,rfl,bO,hT,hX⟩:=hrel
  have bM:=hH.out.1.but hX (by omega)
  have bR:=hH.out.2.1.but hX (by omega)
  have hF : Ext w wr:=ExtBut.ext hE0 hX (fun x h=>by omega)
  have hlk : (l.take k).length=k:=by rw [List.length_take];omega
  have hOv:=hT.outer
  rw [hlk] at hOv
  obtain ⟨av,cv,rfl,hcv1,hcv2,-⟩:=hOv.sl.slice_form
  unfold maxLen at hcv2
  have m0 : wr.cell? ⟨w.heap.size,1,none⟩=some (.slice a l.length cp):=bM.cell 1
  have o0 : wr.cell? ⟨w.heap.size+1+1,1,none⟩=some (.slice av k cv):=bO.cell 1
  have hBl:=bO.lt
  by_cases hlt : k < l.length
  ·obtain ⟨x,hx⟩ : ∃ x,l[k]? = some x:=⟨l[k],by simp [hlt]⟩
   obtain ⟨b,off,sv,rfl,hbb,d0,hcl⟩:=(hL.out.ext hF).cell hx
   obtain ⟨ca,ccp,rfl,hclc,hccm,-⟩:=hcl.form
   have hxs : x.length≤1000000:=hs.2 x (List.mem_of_getElem? hx)
   have hA:=Lib.hid (And.intro hx (And.intro hT (And.intro hX (And.intro hOv (And.intro bO hlk)))))
   clear hx hT hX hOv bO hlk bM bR hs hbb
   go_wp2
   have hk6 : k≤1000000:=by have:=hsm.out;omega
   go_wp2
   go_region_law (first | (rw [if_pos (by rfl)];refine wp_append_any (.tmp 30) (.tmp 33) 67 67 rfl rfl rfl (B:=w1.heap.size) (e:=104) (n:=k) (m:=1) (xs:=trows srow vs (l.take k)) (ys:=srow (.slice an x.length cn) x) Tryz.underlying67 Tryz.underlying67 hai.out haz.out hai3.out haz3.out ?_ ?_ ?_ ?_ ?_ ?_ ?_;(first | exact hA.out.2.2.2.1.ext hB.out.1 | exact hA.out.2.2.2.1.ext hB.out.1.drew);(first | exact (Own.lit' (B:=0) (e:=104) (k:=1) w4 #[.slice an x.length cn] 1 (Nat.zero_le _) (by simp [maxLen]) rfl).sl | exact (Own.lit' (B:=0) (e:=104) (k:=1) w4 #[.slice an x.length cn] 1 (Nat.zero_le _) (by simp [maxLen]) rfl).sl.ext (Ext.refl _).drew);(simp [srow,Value.oneCell']);(simp [maxLen];omega);(rw [haby.out];omega);(exact Nat.le_trans hA.out.2.2.1.size hB.out.1.size);intro v' w6 hOv hKv hbv _;(obtain ⟨av',cv',rfl,-⟩:=hOv.sl.slice_form);(have hvB:=fun g e=>(hA.out.2.2.2.1.lt (g:=g) e).1);(have bO6 : Box w6 (w.heap.size+1+1) 69 #[.int .i64 num,.slice av k cv]:=(hA.out.2.2.2.2.1.ext hB.out.1).but (ExtBut.of_keeps hKv) (fun h=>by have:=hvB _ h;have:=hsz1.out;omega));(have o6 : w6.cell? ⟨w.heap.size+1+1,1,none⟩=some (.slice av k cv):=bO6.cell 1);(have of6:=bO6.frozen 1);(have hC:=Lib.hid (And.intro hOv (And.intro hKv (And.intro hbv bO6))));clear hOv hKv hbv bO6 hvB) | (go_simp;go_at_call 55;refine (clone_Stack (hcl.ext ?_) hxs).mono ?_;(first | exact (Ext.refl _).drew | exact Ext.refl _);rintro e w4 ⟨sn,rfl,hOn,hE4⟩;(have hE4' : Ext wr w4:=(by first | exact hE4 | exact ((Ext.refl wr).drew).trans hE4));(have hslt : ∀ g,sn.ownBlock=some g→wr.heap.size≤g∧g < w4.heap.size:=fun g e=>(Own.lt (g:=g) hOn) e);(have hOn2 : OwnI w4 wr.heap.size sn x:=hOn);(obtain ⟨an,cn,rfl,hcn,hcn2,-⟩:=(Own.sl hOn).slice_form);(have o4:=hE4'.cell o0);(have hBl4 : w.heap.size+1+1 < w4.heap.size:=Nat.lt_of_lt_of_le hBl hE4'.size);(have hB:=Lib.hid (And.intro (hE4'.alloc (.cells #[.slice an x.length cn] 104)) (And.intro hOn2 (And.intro hslt hE4'))));clear hOn hslt hOn2 hE4 hE4'))
   all_goals
    have hOv:=hC.out.1
    have hKv : Keeps (w4.alloc (.cells #[.slice an x.length cn] 104)) w6 w1.heap.size (.slice av k cv):=hC.out.2.1
    have hlk:=hA.out.2.2.2.2.2
    have hP : OwnS w6 w1.heap.size (.slice av' (k+1) cv') (vs ++ [.slice an x.length cn]) (l.take k ++ [x]):=OwnS.push hA.out.2.1 hB.out.1 ((OwnI.mono hB.out.2.1 (by have:=hA.out.2.2.1.size;omega)).ext ((Ext.refl _).alloc _)) (fun g e=>(hB.out.2.2.1 g e).1) (by rw [hlk];exact hOv) hKv hC.out.2.2.1
    have htk : l.take k ++ [x]=l.take (k+1):=by rw [List.take_add_one,hA.out.1];rfl
    rw [htk] at hP
    have hvB:=fun g e=>(hA.out.2.2.2.1.lt (g:=g) e).1
    have hX6:=((hA.out.2.2.1.trans (ExtBut.of_ext hB.out.1)).trans' (ExtBut.of_keeps hKv) (fun x hx h=>by have:=hvB _ h;omega)).trans (ExtBut.setCell w6 ⟨w.heap.size+1+1,1,none⟩ (.slice av' (k+1) cv'))
    have hP7:=OwnS.but hP (ExtBut.setCell w6 ⟨w.heap.size+1+1,1,none⟩ (.slice av' (k+1) cv')) (fun g e h=>by have:=hsz1.out;have h' : g=w.heap.size+1+1:=h;omega)
    have bO7:=hC.out.2.2.2.set 1 (.slice av' (k+1) cv')
    have hR:=Lib.hid (And.intro bO7 (And.intro hP7 hX6))
    clear hvB hX6 hP7 bO7 hP hOv hKv hlk htk hC o6 of6
    go_wp2
    go_roundw
    case rel=>exact ⟨k+1,_,_,by omega,by go_num,hR.out.1,hR.out.2.1,hR.out.2.2⟩
    case measure=>simp [intOf];omega
  ·have hkl : k=l.length:=by omega
   subst hkl
   have hkk : decide ((l.length : Int) < (l.length : Int))=false:=decide_eq_false (by omega)
   rw [List.take_length] at hT
   obtain ⟨g,cg,hform,hcg,hcg2,hg1,hg2⟩:=Own.form hT.outer (show 0 < l.length by omega)
   cases hform
   have hst:=Lib.hid (And.intro bM (And.intro bR (And.intro bO (And.intro hT hX))))
   have hL0:=hL
   clear bM bR bO hT hX hOv hlk hlt hs
   go_wp2
   clear m0 o0 hBl
   obtain ⟨w3,hw3⟩ : ∃ z,wr=z:=⟨_,rfl⟩
   rw [hw3] at hst hF hg2 ⊢
   clear hw3
   go_loopw [14,38] (fun fv iv wr => ∃ (i : Nat) (why : Int) (out : List (List Item)) (vs : List Value),i≤n∧iv = .int .i64 i∧fv = .int .u8 why∧out.length=l.length∧OwnS wr w1.heap.size (.slice (some ⟨g,0,none⟩) l.length cv) vs out∧ExtBut (· = g) w3 wr∧Hid (eachR f ⟨num,l⟩ fa n=eachGo f num l (n - i) (fa+i) out why)) (fun _ iv _=>n - (intOf iv).toNat)
   case atStart=>exact ⟨0,0,l,_,Nat.zero_le _,rfl,rfl,rfl,hst.out.2.2.2.1,ExtBut.refl _ _,Hid.mk rfl⟩
   case round =>
    obtain ⟨i,why,out,vs,hi,rfl,rfl,hol,hO,hX,hN⟩:=hrel
    have hz1:=hsz1.out
    have bM:=hst.out.1.but hX (by omega)
    have bR:=hst.out.2.1.but hX (by omega)
    have bO:=hst.out.2.2.1.but hX (by omega)
    have hF4 : Ext w wr:=ExtBut.ext hF hX (fun x h=>by omega)
    have m1 : wr.cell? ⟨w.heap.size,1,none⟩=some (.slice a l.length cp):=bM.cell 1
    by_cases hlt : i < n
    ·have hlt' : decide (i < n)=true:=decide_eq_true hlt
     obtain ⟨j,hj⟩ : ∃ j,j=fa+i:=⟨_,rfl⟩
     have hwr : IntKind.i64.wrap ((fa : Int)+(i : Int))=(fa : Int)+(i : Int):=IntWalk.i64_in _ (by omega)
     obtain ⟨x,hx⟩ : ∃ x,l[j]? = some x:=⟨l[j]'(by omega),by simp [show j < l.length by omega]⟩
     obtain ⟨b,off,sv,rfl,hbb,d0,hcl⟩:=(hL0.out.ext hF4).cell hx
     have hX0:=Lib.hid hx
     have d0' : wr.cell? ⟨b,off+(fa+i),none⟩=some sv:=by rw [← hj];exact d0
     have hjl' : fa+i < l.length:=by omega
     obtain ⟨ca,ccp,rfl,-⟩:=hcl.form
     obtain ⟨⟨s2,v2,e2⟩,hf⟩ : ∃ z,f x=z:=⟨_,rfl⟩
     replace hf:=Lib.hid hf
     have hC:=Lib.hid hcl
     have hA:=Lib.hid (And.intro hO (And.intro hX (And.intro bO bR)))
     have hjl : j < l.length:=by omega
     have hstep : n - i=(n - (i+1))+1:=by omega
     rw [hstep,← hj] at hN
     clear hx hcl hbb hO hX bM bR bO hstep
     by_cases he : e2=0
     ·subst he
      go_wp2_with fail
      refine (hp x _ wr hF4 hC.out).mono ?_
      rintro e wn ⟨vo,rfl,hvo,hB⟩
      rw [hf.out] at hvo ⊢
      obtain ⟨bo,co,rfl,-⟩:=hvo.its.form
      dsimp only at hvo ⊢
      replace hvo:=Lib.hid hvo
      have bO5:=hA.out.2.2.1.ext hB
      have o1 : wn.cell? ⟨w.heap.size+1+1,1,none⟩=some (.slice (some ⟨g,0,none⟩) l.length cv):=bO5.cell 1
      have hOo:=hA.out.1.outer
      rw [hol] at hOo
      have hfr:=(Own.ext hOo hB).frozen j
      have hgl : g < wn.heap.size:=by have:=hB.size;have:=hA.out.2.1.size;omega
      obtain ⟨y,hy⟩ : ∃ y,out[j]? = some y:=⟨out[j]'(by omega),by simp [show j < out.length by omega]⟩
      obtain ⟨b',off',sv',hbe,hb',c0,-⟩:=(hA.out.1.sts.ext hB).cell hy
      cases hbe
      rw [Nat.zero_add] at c0
      have hO5 : OwnS (wn.setCell ⟨g,j,none⟩ (.slice bo s2.length co)) w1.heap.size (.slice (some ⟨g,0,none⟩) l.length cv) (vs.set j (.slice bo s2.length co)) (out.set j s2):=by
       have h:=OwnS.set (show OwnS wr w1.heap.size (.slice (some ⟨g,0,none⟩) out.length cv) vs out by rw [hol];exact hA.out.1) hB (OwnI.mono hvo.out (by have:=hA.out.2.1.size;omega)) (fun b e=>(Own.lt hvo.out e).1) (show j < out.length by omega)
       rw [List.length_set,hol] at h
       exact h
      have hX5:=(hA.out.2.1.trans (ExtBut.of_ext hB)).trans (ExtBut.setCell wn ⟨g,j,none⟩ (.slice bo s2.length co))
      have hN2 : eachR f ⟨num,l⟩ fa n=eachGo f num l (n - (i+1)) (fa+(i+1)) (out.set j s2) (if why=0 then v2 else why):=by
       rw [hN.out,eachGo_ok hX0.out hf.out,show fa+(i+1)=j+1 by omega]
      have hZ:=Lib.hid (And.intro hO5 (And.intro hX5 hN2))
      clear hOo hb' hy hO5 hX5 hN2 bO5
      have hfr' : wn.frozen? ⟨g,fa+i,none⟩=false:=by rw [← hj];exact hfr
      have c0' : wn.cell? ⟨g,fa+i,none⟩=some sv':=by rw [← hj];exact c0
      have hji : (fa : Int)+(i : Int)=(j : Int):=by omega
      have hi0 : (0 : Int)≤(fa : Int)+(i : Int):=by omega
      have hi1 : (fa : Int)+(i : Int) < (l.length : Int):=by omega
      have hi2 : ((fa : Int)+(i : Int)).toNat=fa+i:=by omega
      rw [hj] at hZ
      clear hji
      by_cases hwy : why=0
      ·subst hwy
       go_wp2
       go_roundw
       case rel=>exact ⟨i+1,v2,_,_,by omega,by go_num,rfl,by simp [hol],hZ.out.1,hZ.out.2.1,Hid.mk hZ.out.2.2⟩
       case measure=>simp [intOf];omega
      ·have hw1 : (why == 0)=false:=by simp [hwy]
       go_wp2
       go_roundw
       case rel=>exact ⟨i+1,why,_,_,by omega,by go_num,rfl,by simp [hol],hZ.out.1,hZ.out.2.1,Hid.mk (by rw [hZ.out.2.2,if_neg hwy])⟩
       case measure=>simp [intOf];omega
     ·have he1 : (e2 != 0)=true:=by simp [he]
      have hres : Hid (eachR f ⟨num,l⟩ fa n=(Stk.zero,0,e2)):=Hid.mk (by rw [hN.out,eachGo_bad hX0.out hf.out he])
      go_wp2_with fail
      refine (hp x _ wr hF4 hC.out).mono ?_
      rintro e wn ⟨vo,rfl,hvo,hB⟩
      rw [hf.out] at hvo ⊢
      obtain ⟨bo,co,rfl,-⟩:=hvo.its.form
      dsimp only at hvo ⊢
      have bR5:=hA.out.2.2.2.ext hB
      have r0 : wn.cell? ⟨w.heap.size+1,0,none⟩=some (.int .i64 0):=bR5.cell 0
      have r1 : wn.cell? ⟨w.heap.size+1,1,none⟩=some (.slice none 0 0):=bR5.cell 1
      have rf0:=bR5.frozen 0
      have rf1:=bR5.frozen 1
      have hF5:=hF4.trans hB
      clear bR5
      go_wp2
      rw [hres.out]
      refine bodyPost_ret (v := .tuple #[.agg #[.int .i64 0,.slice none 0 0],.int .u8 0,.int .i64 e2]) (by simp [results,Tryz.f61,go_sem,r0,r1]) rfl ⟨_,[],rfl,OwnS.nil _ _,?_⟩
      first | exact hF5 | exact (hF5.setCell (by simp) _).setCell (by simp) _
    ·have hlt' : decide (i < n)=false:=decide_eq_false hlt
     have hm0 : n - i=0:=by omega
     rw [hm0] at hN
     have r0 : wr.cell? ⟨w.heap.size+1,0,none⟩=some (.int .i64 0):=bR.cell 0
     have r1 : wr.cell? ⟨w.heap.size+1,1,none⟩=some (.slice none 0 0):=bR.cell 1
     have rf0:=bR.frozen 0
     have rf1:=bR.frozen 1
     have o0 : wr.cell? ⟨w.heap.size+1+1,0,none⟩=some (.int .i64 num):=bO.cell 0
     have o1 : wr.cell? ⟨w.heap.size+1+1,1,none⟩=some (.slice (some ⟨g,0,none⟩) l.length cv):=bO.cell 1
     have hO':=Lib.hid hO
     clear hO hm0 hlt bM bR bO
     by_cases hwy : why=0
     ·subst hwy
      have hres : Hid (eachR f ⟨num,l⟩ fa n=(⟨num,out⟩,0,0)):=Hid.mk (by rw [hN.out,eachGo_end])
      go_wp2
      rw [hres.out]
      have hY:=((ExtBut.setCell wr ⟨w.heap.size+1,0,none⟩ (.int .i64 num)).mono (S':=fun b=>b=w.heap.size+1) (fun x _ h=>h)).trans ((ExtBut.setCell _ ⟨w.heap.size+1,1,none⟩ (.slice (some ⟨g,0,none⟩) l.length cv)).mono (S':=fun b=>b=w.heap.size+1) (fun x _ h=>h))
      refine bodyPost_ret (v := .tuple #[.agg #[.int .i64 num,.slice (some ⟨g,0,none⟩) l.length cv],.int .u8 0,.int .i64 0]) (by simp [results,Tryz.f61,go_sem,r0,r1]) rfl ⟨_,vs,rfl,OwnS.mono (B':=w.heap.size) (OwnS.but hO'.out hY (fun g e h=>by omega)) (by omega),ExtBut.ext hF4 hY (fun x h=>by omega)⟩
     ·have hw1 : (why != 0)=true:=by simp [hwy]
      have hres : Hid (eachR f ⟨num,l⟩ fa n=(Stk.zero,why,0)):=Hid.mk (by rw [hN.out,eachGo_why hwy])
      clear hwy
      go_wp2
      rw [hres.out]
      refine bodyPost_ret (v := .tuple #[.agg #[.int .i64 0,.slice none 0 0],.int .u8 why,.int .i64 0]) (by simp [results,Tryz.f61,go_sem,r0,r1]) rfl ⟨_,[],rfl,OwnS.nil _ _,?_⟩
      first | exact hF4 | exact (hF4.setCell (by simp) _).setCell (by simp) _
end Go.Proofs.YtoanoodfacmieaaGreatDoor

/- Contracts: Read, Write, Retag of layer 33, the program's and the reference's. (printed by gen/acts33.py) -/
namespace Go.Proofs.YtoanoodfacmieaaGreatDoor
set_option maxRecDepth 100000
open Go.RowKit
theorem okK_small33 {x : Stk} (h : okK x=true) : x.cells.length≤2 ∧ ∀ s ∈ x.cells,s.length≤600:=by
 unfold okK at h
 simp only [Bool.and_eq_true,decide_eq_true_eq] at h
 refine ⟨h.1.2,fun s hs => ?_⟩
 have:=List.all_eq_true.1 h.2 s hs
 unfold okS at this
 simp only [Bool.and_eq_true,decide_eq_true_eq] at this
 exact this.1
def use33 (x : Stk) (a n tag : Int) (b : Bool) (run : List Int) : Stk × Int × Int:=if ask33 x a n run=0 then eachR (fun l=>useR l tag b run) x a.toNat n.toNat else (Stk.zero,0,ask33 x a n run)
def tag33 (x : Stk) (a n k old : Int) (it : Item) (run : List Int) : Stk × Int × Int:=if ask33 x a n run=0 then (if kindOk k then eachR (fun l=>tagR l k old it run) x a.toNat n.toNat else (Stk.zero,0,2)) else (Stk.zero,0,ask33 x a n run)
theorem use33_bad {x : Stk} {a n tag : Int} {b : Bool} {run : List Int} {e : Int} (h : ask33 x a n run=e) (he : e≠0) : use33 x a n tag b run=(Stk.zero,0,e):=by rw [use33,h,if_neg he]
theorem use33_ok {x : Stk} {a n : Nat} {tag : Int} {b : Bool} {run : List Int} (h : ask33 x a n run=0) : use33 x a n tag b run=eachR (fun l=>useR l tag b run) x a n:=by rw [use33,if_pos h,Int.toNat_natCast,Int.toNat_natCast]
theorem tag33_bad {x : Stk} {a n k old : Int} {it : Item} {run : List Int} {e : Int} (h : ask33 x a n run=e) (he : e≠0) : tag33 x a n k old it run=(Stk.zero,0,e):=by rw [tag33,h,if_neg he]
theorem tag33_arg {x : Stk} {a n k old : Int} {it : Item} {run : List Int} (h : ask33 x a n run=0) (hk : kindOk k=false) : tag33 x a n k old it run=(Stk.zero,0,2):=by rw [tag33,if_pos h,if_neg (by simp [hk])]
theorem tag33_ok {x : Stk} {a n : Nat} {k old : Int} {it : Item} {run : List Int} (h : ask33 x a n run=0) (hk : kindOk k=true) : tag33 x a n k old it run=eachR (fun l=>tagR l k old it run) x a n:=by rw [tag33,if_pos h,if_pos hk,Int.toNat_natCast,Int.toNat_natCast]
theorem oneR_funK {k : Int} (tag : Int) (it : Item) (run : List Int) (hk : kindOk k=true) : oneR k tag it run=fun l=>tagR l k tag it run:=by
 funext l
 rcases kind_yes hk with rfl | rfl | rfl | rfl <;> rfl
theorem callFunc_read33 (args : Array Value) (w : World) : (callFunc 66 args).run Tryz.prog w = .ok (.enter 66 args) w:=by kernel_rfl
set_option maxHeartbeats 400000 in
theorem stacks_read1 {run : List Int} {r : Value} (tag : Int) (B1 B2 : Nat) (W : World) (h1 : W.cell? ⟨B1,0,none⟩=some (.int .i64 tag)) (h2 : W.cell? ⟨B2,0,none⟩=some r) (hr : Nts W r run) : PredU 66 #[.pointer (some ⟨B1,0,none⟩),.pointer (some ⟨B2,0,none⟩)] W (fun l=>useR l tag false run):=by
 intro x s w hW hl
 have d1:=hW.cell h1
 have d2:=hW.cell h2
 have hF:=Lib.hid (guard_ReadO tag hl (hr.ext hW))
 obtain ⟨a,cp,rfl,-⟩:=hl.form
 obtain ⟨a2,cp2,rfl,-⟩:=hr.form
 clear h1 h2 hW hl hr
 show Calls Tryz.prog 66 #[.slice a x.length cp,.pointer (some ⟨B1,0,none⟩),.pointer (some ⟨B2,0,none⟩)] w _
 go_enter Tryz.func66,Tryz.ntmps66
 go_wp2_with fail
 refine hF.out.mono ?_
 rintro e w1 ⟨v2,rfl,hv2,hE2⟩
 obtain ⟨b3,d3,rfl,-⟩:=hv2.its.form
 go_wp2
 refine bodyPost_ret (results_tmp3 rfl _ _ _) rfl ?_
 exact ⟨_,rfl,hv2,hE2⟩
theorem callFunc_write33 (args : Array Value) (w : World) : (callFunc 62 args).run Tryz.prog w = .ok (.enter 62 args) w:=by kernel_rfl
set_option maxHeartbeats 400000 in
theorem stacks_write1 {run : List Int} {r : Value} (tag : Int) (B1 B2 : Nat) (W : World) (h1 : W.cell? ⟨B1,0,none⟩=some (.int .i64 tag)) (h2 : W.cell? ⟨B2,0,none⟩=some r) (hr : Nts W r run) : PredU 62 #[.pointer (some ⟨B1,0,none⟩),.pointer (some ⟨B2,0,none⟩)] W (fun l=>useR l tag true run):=by
 intro x s w hW hl
 have d1:=hW.cell h1
 have d2:=hW.cell h2
 have hF:=Lib.hid (guard_WriteO tag hl (hr.ext hW))
 obtain ⟨a,cp,rfl,-⟩:=hl.form
 obtain ⟨a2,cp2,rfl,-⟩:=hr.form
 clear h1 h2 hW hl hr
 show Calls Tryz.prog 62 #[.slice a x.length cp,.pointer (some ⟨B1,0,none⟩),.pointer (some ⟨B2,0,none⟩)] w _
 go_enter Tryz.func62,Tryz.ntmps62
 go_wp2_with fail
 refine hF.out.mono ?_
 rintro e w1 ⟨v2,rfl,hv2,hE2⟩
 obtain ⟨b3,d3,rfl,-⟩:=hv2.its.form
 go_wp2
 refine bodyPost_ret (results_tmp3 rfl _ _ _) rfl ?_
 exact ⟨_,rfl,hv2,hE2⟩
theorem callFunc_retag33 (args : Array Value) (w : World) : (callFunc 70 args).run Tryz.prog w = .ok (.enter 70 args) w:=by kernel_rfl
set_option maxHeartbeats 400000 in
theorem stacks_retag1 {run : List Int} {r : Value} {k : Int} (hk : u8B k) (old p t c : Int) (B0 B1 B2 B3 : Nat) (W : World) (hp : Perms W) (h0 : W.cell? ⟨B0,0,none⟩=some (.int .u8 k)) (h1 : W.cell? ⟨B1,0,none⟩=some (.int .i64 old)) (i0 : W.cell? ⟨B2,0,none⟩=some (.int .u8 p)) (i1 : W.cell? ⟨B2,1,none⟩=some (.int .i64 t)) (i2 : W.cell? ⟨B2,2,none⟩=some (.int .i64 c)) (h2 : W.cell? ⟨B3,0,none⟩=some r) (hr : Nts W r run) : PredU 70 #[.pointer (some ⟨B0,0,none⟩),.pointer (some ⟨B1,0,none⟩),.pointer (some ⟨B2,0,none⟩),.pointer (some ⟨B3,0,none⟩)] W (fun l=>tagR l k old ⟨p,t,c⟩ run):=by
 intro x s w hW hl
 have d0:=hW.cell h0
 have d1:=hW.cell h1
 have d2:=hW.cell h2
 have e0:=hW.cell i0
 have e1:=hW.cell i1
 have e2:=hW.cell i2
 have hF:=Lib.hid (guard_RetagO (hp.ext hW) hk old ⟨p,t,c⟩ hl (hr.ext hW))
 obtain ⟨a,cp,rfl,-⟩:=hl.form
 obtain ⟨a2,cp2,rfl,-⟩:=hr.form
 clear h0 h1 h2 i0 i1 i2 hW hl hr hp hk
 show Calls Tryz.prog 70 #[.slice a x.length cp,.pointer (some ⟨B0,0,none⟩),.pointer (some ⟨B1,0,none⟩),.pointer (some ⟨B2,0,none⟩),.pointer (some ⟨B3,0,none⟩)] w _
 unfold Item.val at hF
 go_enter Tryz.func70,Tryz.ntmps70
 go_wp2_with fail
 refine hF.out.mono ?_
 rintro e w1 ⟨v2,rfl,hv2,hE2⟩
 obtain ⟨b3,d3,rfl,-⟩:=hv2.its.form
 go_wp2
 refine bodyPost_ret (results_tmp3 rfl _ _ _) rfl ?_
 exact ⟨_,rfl,hv2,hE2⟩
set_option maxHeartbeats 3200000 in
theorem stacks_Read {l : List (List Item)} {num a n : Int} {run : List Int} {s v : Value} {w : World} (tag : Int) (hl : Sts w s l) (hr : Nts w v run) :
  Calls Tryz.prog 32 #[.agg #[.int .i64 num,s],.int .i64 a,.int .i64 n,.int .i64 tag,v] w (RetKW w (use33 ⟨num,l⟩ a n tag false run).1 (use33 ⟨num,l⟩ a n tag false run).2.1 (use33 ⟨num,l⟩ a n tag false run).2.2):=by
 obtain ⟨q,cp,rfl,-⟩:=hl.form
 obtain ⟨a2,cp2,rfl,-⟩:=hr.form
 have hE0 : Ext w (World.alloc (World.alloc (World.alloc (World.alloc w (.cells #[.int .i64 num,.slice q l.length cp] 69)) (.cells #[.int .i64 tag] 3)) (.cells #[.slice a2 run.length cp2] 28)) (.cells #[.int .i64 0,.slice none 0 0] 69)):=((((Ext.refl w).alloc (.cells #[.int .i64 num,.slice q l.length cp] 69)).alloc (.cells #[.int .i64 tag] 3)).alloc (.cells #[.slice a2 run.length cp2] 28)).alloc (.cells #[.int .i64 0,.slice none 0 0] 69)
 have bX0:=(((Box.new w 69 #[.int .i64 num,.slice q l.length cp]).ext ((Ext.refl _).alloc (.cells #[.int .i64 tag] 3))).ext ((Ext.refl _).alloc (.cells #[.slice a2 run.length cp2] 28))).ext ((Ext.refl _).alloc (.cells #[.int .i64 0,.slice none 0 0] 69))
 have bX1:=((Box.new (World.alloc w (.cells #[.int .i64 num,.slice q l.length cp] 69)) 3 #[.int .i64 tag]).ext ((Ext.refl _).alloc (.cells #[.slice a2 run.length cp2] 28))).ext ((Ext.refl _).alloc (.cells #[.int .i64 0,.slice none 0 0] 69))
 have bX2:=(Box.new (World.alloc (World.alloc w (.cells #[.int .i64 num,.slice q l.length cp] 69)) (.cells #[.int .i64 tag] 3)) 28 #[.slice a2 run.length cp2]).ext ((Ext.refl _).alloc (.cells #[.int .i64 0,.slice none 0 0] 69))
 have bX3:=Box.new (World.alloc (World.alloc (World.alloc w (.cells #[.int .i64 num,.slice q l.length cp] 69)) (.cells #[.int .i64 tag] 3)) (.cells #[.slice a2 run.length cp2] 28)) 69 #[.int .i64 0,.slice none 0 0]
 simp only [World.size_alloc] at bX0 bX1 bX2 bX3
 have hL:=Lib.hid (hl.ext hE0)
 have hV:=Lib.hid (hr.ext hE0)
 have hmf : ∀ (fn : Fn) (first cap : Array Value) (w : World),(Instr.makeFunc fn first cap).run Tryz.prog w = .ok (.func fn first cap) w:=fun _ _ _ _=>rfl
 clear hl hr
 obtain ⟨w1,hw1⟩ : ∃ z,(World.alloc (World.alloc (World.alloc (World.alloc w (.cells #[.int .i64 num,.slice q l.length cp] 69)) (.cells #[.int .i64 tag] 3)) (.cells #[.slice a2 run.length cp2] 28)) (.cells #[.int .i64 0,.slice none 0 0] 69))=z:=⟨_,rfl⟩
 rw [hw1] at hE0 hL hV bX0 bX1 bX2 bX3
 rcases ask33_cases ⟨num,l⟩ a n run with h8 | h6 | ⟨h0,hok,hkk,hin⟩
 ·have hres:=Lib.hid (use33_bad (tag:=tag) (b:=false) h8 (by decide))
  replace h8:=Lib.hid h8
  go_enter Tryz.func32,Tryz.ntmps32
  have c0_0 : World.cell? w1 ⟨w.heap.size,0,none⟩=some (.int .i64 num):=bX0.cell 0
  have c0_1 : World.cell? w1 ⟨w.heap.size,1,none⟩=some (.slice q l.length cp):=bX0.cell 1
  have c1_0 : World.cell? w1 ⟨w.heap.size+1,0,none⟩=some (.int .i64 tag):=bX1.cell 0
  have c2_0 : World.cell? w1 ⟨w.heap.size+1+1,0,none⟩=some (.slice a2 run.length cp2):=bX2.cell 0
  have c3_0 : World.cell? w1 ⟨w.heap.size+1+1+1,0,none⟩=some (.int .i64 0):=bX3.cell 0
  have c3_1 : World.cell? w1 ⟨w.heap.size+1+1+1,1,none⟩=some (.slice none 0 0):=bX3.cell 1
  go_wp2_with fail
  clear c0_0 c0_1 c1_0 c2_0 c3_0 c3_1
  clear hw1
  refine (stacks_asked hL.out hV.out).mono ?_
  rintro e w2 ⟨rfl,hE2⟩
  rw [h8.out]
  have c0_0 : World.cell? w2 ⟨w.heap.size,0,none⟩=some (.int .i64 num):=(bX0.ext hE2).cell 0
  have c0_1 : World.cell? w2 ⟨w.heap.size,1,none⟩=some (.slice q l.length cp):=(bX0.ext hE2).cell 1
  have c1_0 : World.cell? w2 ⟨w.heap.size+1,0,none⟩=some (.int .i64 tag):=(bX1.ext hE2).cell 0
  have c2_0 : World.cell? w2 ⟨w.heap.size+1+1,0,none⟩=some (.slice a2 run.length cp2):=(bX2.ext hE2).cell 0
  have c3_0 : World.cell? w2 ⟨w.heap.size+1+1+1,0,none⟩=some (.int .i64 0):=(bX3.ext hE2).cell 0
  have c3_1 : World.cell? w2 ⟨w.heap.size+1+1+1,1,none⟩=some (.slice none 0 0):=(bX3.ext hE2).cell 1
  have f0:=(bX3.ext hE2).frozen 0
  have f1:=(bX3.ext hE2).frozen 1
  go_wp2
  rw [hres.out]
  refine bodyPost_ret (v := .tuple #[.agg #[.int .i64 0,.slice none 0 0],.int .u8 0,.int .i64 8]) (by simp [results,Tryz.f32,go_sem,c3_0,c3_1]) rfl ⟨_,[],rfl,OwnS.nil _ _,?_⟩
  have hFF:=hE0.trans hE2
  first | exact hFF | exact (hFF.setCell (by simp <;> omega) _).setCell (by simp <;> omega) _
 ·have hres:=Lib.hid (use33_bad (tag:=tag) (b:=false) h6 (by decide))
  replace h6:=Lib.hid h6
  go_enter Tryz.func32,Tryz.ntmps32
  have c0_0 : World.cell? w1 ⟨w.heap.size,0,none⟩=some (.int .i64 num):=bX0.cell 0
  have c0_1 : World.cell? w1 ⟨w.heap.size,1,none⟩=some (.slice q l.length cp):=bX0.cell 1
  have c1_0 : World.cell? w1 ⟨w.heap.size+1,0,none⟩=some (.int .i64 tag):=bX1.cell 0
  have c2_0 : World.cell? w1 ⟨w.heap.size+1+1,0,none⟩=some (.slice a2 run.length cp2):=bX2.cell 0
  have c3_0 : World.cell? w1 ⟨w.heap.size+1+1+1,0,none⟩=some (.int .i64 0):=bX3.cell 0
  have c3_1 : World.cell? w1 ⟨w.heap.size+1+1+1,1,none⟩=some (.slice none 0 0):=bX3.cell 1
  go_wp2_with fail
  clear c0_0 c0_1 c1_0 c2_0 c3_0 c3_1
  clear hw1
  refine (stacks_asked hL.out hV.out).mono ?_
  rintro e w2 ⟨rfl,hE2⟩
  rw [h6.out]
  have c0_0 : World.cell? w2 ⟨w.heap.size,0,none⟩=some (.int .i64 num):=(bX0.ext hE2).cell 0
  have c0_1 : World.cell? w2 ⟨w.heap.size,1,none⟩=some (.slice q l.length cp):=(bX0.ext hE2).cell 1
  have c1_0 : World.cell? w2 ⟨w.heap.size+1,0,none⟩=some (.int .i64 tag):=(bX1.ext hE2).cell 0
  have c2_0 : World.cell? w2 ⟨w.heap.size+1+1,0,none⟩=some (.slice a2 run.length cp2):=(bX2.ext hE2).cell 0
  have c3_0 : World.cell? w2 ⟨w.heap.size+1+1+1,0,none⟩=some (.int .i64 0):=(bX3.ext hE2).cell 0
  have c3_1 : World.cell? w2 ⟨w.heap.size+1+1+1,1,none⟩=some (.slice none 0 0):=(bX3.ext hE2).cell 1
  have f0:=(bX3.ext hE2).frozen 0
  have f1:=(bX3.ext hE2).frozen 1
  go_wp2
  rw [hres.out]
  refine bodyPost_ret (v := .tuple #[.agg #[.int .i64 0,.slice none 0 0],.int .u8 0,.int .i64 6]) (by simp [results,Tryz.f32,go_sem,c3_0,c3_1]) rfl ⟨_,[],rfl,OwnS.nil _ _,?_⟩
  have hFF:=hE0.trans hE2
  first | exact hFF | exact (hFF.setCell (by simp <;> omega) _).setCell (by simp <;> omega) _
 have hin2:=hin
 unfold inR33 at hin2
 dsimp only at hin2
 obtain ⟨fa,rfl⟩ : ∃ m : Nat,a=m:=⟨a.toNat,by omega⟩
 obtain ⟨fn,rfl⟩ : ∃ m : Nat,n=m:=⟨n.toNat,by omega⟩
 have hin3 : fa < l.length∧1≤fn∧fn≤l.length - fa:=by omega
 have hsm : Hid (l.length≤2 ∧ ∀ s ∈ l,s.length≤600):=Hid.mk (okK_small33 hkk)
 replace hin3:=Lib.hid hin3
 clear hin hin2 hok hkk
 have hres:=Lib.hid (use33_ok (tag:=tag) (b:=false) h0)
 replace h0:=Lib.hid h0
 obtain ⟨⟨⟨yn,yl⟩,u,e3⟩,hy⟩ : ∃ z,eachR (fun l=>useR l tag false run) ⟨num,l⟩ fa fn=z:=⟨_,rfl⟩
 replace hy:=Lib.hid hy
 go_enter Tryz.func32,Tryz.ntmps32
 have c0_0 : World.cell? w1 ⟨w.heap.size,0,none⟩=some (.int .i64 num):=bX0.cell 0
 have c0_1 : World.cell? w1 ⟨w.heap.size,1,none⟩=some (.slice q l.length cp):=bX0.cell 1
 have c1_0 : World.cell? w1 ⟨w.heap.size+1,0,none⟩=some (.int .i64 tag):=bX1.cell 0
 have c2_0 : World.cell? w1 ⟨w.heap.size+1+1,0,none⟩=some (.slice a2 run.length cp2):=bX2.cell 0
 have c3_0 : World.cell? w1 ⟨w.heap.size+1+1+1,0,none⟩=some (.int .i64 0):=bX3.cell 0
 have c3_1 : World.cell? w1 ⟨w.heap.size+1+1+1,1,none⟩=some (.slice none 0 0):=bX3.cell 1
 go_wp2_with fail
 clear c0_0 c0_1 c1_0 c2_0 c3_0 c3_1
 clear hw1
 refine (stacks_asked hL.out hV.out).mono ?_
 rintro e w2 ⟨rfl,hE2⟩
 rw [h0.out]
 have c0_0 : World.cell? w2 ⟨w.heap.size,0,none⟩=some (.int .i64 num):=(bX0.ext hE2).cell 0
 have c0_1 : World.cell? w2 ⟨w.heap.size,1,none⟩=some (.slice q l.length cp):=(bX0.ext hE2).cell 1
 have c1_0 : World.cell? w2 ⟨w.heap.size+1,0,none⟩=some (.int .i64 tag):=(bX1.ext hE2).cell 0
 have c2_0 : World.cell? w2 ⟨w.heap.size+1+1,0,none⟩=some (.slice a2 run.length cp2):=(bX2.ext hE2).cell 0
 have c3_0 : World.cell? w2 ⟨w.heap.size+1+1+1,0,none⟩=some (.int .i64 0):=(bX3.ext hE2).cell 0
 have c3_1 : World.cell? w2 ⟨w.heap.size+1+1+1,1,none⟩=some (.slice none 0 0):=(bX3.ext hE2).cell 1
 have f0:=(bX3.ext hE2).frozen 0
 have f1:=(bX3.ext hE2).frozen 1
 go_wp2_with fail
 refine (stacks_each callFunc_read33 (stacks_read1 tag (w.heap.size+1) (w.heap.size+1+1) _ c1_0 c2_0 (hV.out.ext hE2)) hsm.out hin3.out (hL.out.ext hE2)).mono ?_
 rintro e w4 ⟨v4,vs4,rfl,h4,hE4⟩
 rw [hy.out] at h4 ⊢
 dsimp only at h4 ⊢
 clear c0_0 c0_1 c1_0 c2_0 c3_0 c3_1 f0 f1
 obtain ⟨a4,k4,rfl,-⟩:=h4.sts.form
 replace h4:=Lib.hid h4
 have c0 : World.cell? w4 ⟨w.heap.size+1+1+1,0,none⟩=some (.int .i64 0):=((bX3.ext hE2).ext hE4).cell 0
 have c1 : World.cell? w4 ⟨w.heap.size+1+1+1,1,none⟩=some (.slice none 0 0):=((bX3.ext hE2).ext hE4).cell 1
 have f0:=((bX3.ext hE2).ext hE4).frozen 0
 have f1:=((bX3.ext hE2).ext hE4).frozen 1
 have hlt:=bX3.lt
 have hsz2:=hE2.size
 go_wp2
 rw [hres.out,hy.out]
 have hY:=((ExtBut.setCell w4 ⟨w.heap.size+1+1+1,0,none⟩ (.int .i64 yn)).mono (S':=fun b=>b=w.heap.size+1+1+1) (fun x _ h=>h)).trans ((ExtBut.setCell _ ⟨w.heap.size+1+1+1,1,none⟩ (.slice a4 yl.length k4)).mono (S':=fun b=>b=w.heap.size+1+1+1) (fun x _ h=>h))
 refine bodyPost_ret (v := .tuple #[.agg #[.int .i64 yn,.slice a4 yl.length k4],.int .u8 u,.int .i64 e3]) (by simp [results,Tryz.f32,go_sem,c0,c1]) rfl ⟨_,vs4,rfl,OwnS.mono (B:=w2.heap.size) (B':=w.heap.size) (OwnS.but h4.out hY (fun g e h=>by omega)) (by omega),ExtBut.ext ((hE0.trans hE2).trans hE4) hY (fun x h=>by omega)⟩
set_option maxHeartbeats 3200000 in
theorem stacks_Write {l : List (List Item)} {num a n : Int} {run : List Int} {s v : Value} {w : World} (tag : Int) (hl : Sts w s l) (hr : Nts w v run) :
  Calls Tryz.prog 28 #[.agg #[.int .i64 num,s],.int .i64 a,.int .i64 n,.int .i64 tag,v] w (RetKW w (use33 ⟨num,l⟩ a n tag true run).1 (use33 ⟨num,l⟩ a n tag true run).2.1 (use33 ⟨num,l⟩ a n tag true run).2.2):=by
 obtain ⟨q,cp,rfl,-⟩:=hl.form
 obtain ⟨a2,cp2,rfl,-⟩:=hr.form
 have hE0 : Ext w (World.alloc (World.alloc (World.alloc (World.alloc w (.cells #[.int .i64 num,.slice q l.length cp] 69)) (.cells #[.int .i64 tag] 3)) (.cells #[.slice a2 run.length cp2] 28)) (.cells #[.int .i64 0,.slice none 0 0] 69)):=((((Ext.refl w).alloc (.cells #[.int .i64 num,.slice q l.length cp] 69)).alloc (.cells #[.int .i64 tag] 3)).alloc (.cells #[.slice a2 run.length cp2] 28)).alloc (.cells #[.int .i64 0,.slice none 0 0] 69)
 have bX0:=(((Box.new w 69 #[.int .i64 num,.slice q l.length cp]).ext ((Ext.refl _).alloc (.cells #[.int .i64 tag] 3))).ext ((Ext.refl _).alloc (.cells #[.slice a2 run.length cp2] 28))).ext ((Ext.refl _).alloc (.cells #[.int .i64 0,.slice none 0 0] 69))
 have bX1:=((Box.new (World.alloc w (.cells #[.int .i64 num,.slice q l.length cp] 69)) 3 #[.int .i64 tag]).ext ((Ext.refl _).alloc (.cells #[.slice a2 run.length cp2] 28))).ext ((Ext.refl _).alloc (.cells #[.int .i64 0,.slice none 0 0] 69))
 have bX2:=(Box.new (World.alloc (World.alloc w (.cells #[.int .i64 num,.slice q l.length cp] 69)) (.cells #[.int .i64 tag] 3)) 28 #[.slice a2 run.length cp2]).ext ((Ext.refl _).alloc (.cells #[.int .i64 0,.slice none 0 0] 69))
 have bX3:=Box.new (World.alloc (World.alloc (World.alloc w (.cells #[.int .i64 num,.slice q l.length cp] 69)) (.cells #[.int .i64 tag] 3)) (.cells #[.slice a2 run.length cp2] 28)) 69 #[.int .i64 0,.slice none 0 0]
 simp only [World.size_alloc] at bX0 bX1 bX2 bX3
 have hL:=Lib.hid (hl.ext hE0)
 have hV:=Lib.hid (hr.ext hE0)
 have hmf : ∀ (fn : Fn) (first cap : Array Value) (w : World),(Instr.makeFunc fn first cap).run Tryz.prog w = .ok (.func fn first cap) w:=fun _ _ _ _=>rfl
 clear hl hr
 obtain ⟨w1,hw1⟩ : ∃ z,(World.alloc (World.alloc (World.alloc (World.alloc w (.cells #[.int .i64 num,.slice q l.length cp] 69)) (.cells #[.int .i64 tag] 3)) (.cells #[.slice a2 run.length cp2] 28)) (.cells #[.int .i64 0,.slice none 0 0] 69))=z:=⟨_,rfl⟩
 rw [hw1] at hE0 hL hV bX0 bX1 bX2 bX3
 rcases ask33_cases ⟨num,l⟩ a n run with h8 | h6 | ⟨h0,hok,hkk,hin⟩
 ·have hres:=Lib.hid (use33_bad (tag:=tag) (b:=true) h8 (by decide))
  replace h8:=Lib.hid h8
  go_enter Tryz.func28,Tryz.ntmps28
  have c0_0 : World.cell? w1 ⟨w.heap.size,0,none⟩=some (.int .i64 num):=bX0.cell 0
  have c0_1 : World.cell? w1 ⟨w.heap.size,1,none⟩=some (.slice q l.length cp):=bX0.cell 1
  have c1_0 : World.cell? w1 ⟨w.heap.size+1,0,none⟩=some (.int .i64 tag):=bX1.cell 0
  have c2_0 : World.cell? w1 ⟨w.heap.size+1+1,0,none⟩=some (.slice a2 run.length cp2):=bX2.cell 0
  have c3_0 : World.cell? w1 ⟨w.heap.size+1+1+1,0,none⟩=some (.int .i64 0):=bX3.cell 0
  have c3_1 : World.cell? w1 ⟨w.heap.size+1+1+1,1,none⟩=some (.slice none 0 0):=bX3.cell 1
  go_wp2_with fail
  clear c0_0 c0_1 c1_0 c2_0 c3_0 c3_1
  clear hw1
  refine (stacks_asked hL.out hV.out).mono ?_
  rintro e w2 ⟨rfl,hE2⟩
  rw [h8.out]
  have c0_0 : World.cell? w2 ⟨w.heap.size,0,none⟩=some (.int .i64 num):=(bX0.ext hE2).cell 0
  have c0_1 : World.cell? w2 ⟨w.heap.size,1,none⟩=some (.slice q l.length cp):=(bX0.ext hE2).cell 1
  have c1_0 : World.cell? w2 ⟨w.heap.size+1,0,none⟩=some (.int .i64 tag):=(bX1.ext hE2).cell 0
  have c2_0 : World.cell? w2 ⟨w.heap.size+1+1,0,none⟩=some (.slice a2 run.length cp2):=(bX2.ext hE2).cell 0
  have c3_0 : World.cell? w2 ⟨w.heap.size+1+1+1,0,none⟩=some (.int .i64 0):=(bX3.ext hE2).cell 0
  have c3_1 : World.cell? w2 ⟨w.heap.size+1+1+1,1,none⟩=some (.slice none 0 0):=(bX3.ext hE2).cell 1
  have f0:=(bX3.ext hE2).frozen 0
  have f1:=(bX3.ext hE2).frozen 1
  go_wp2
  rw [hres.out]
  refine bodyPost_ret (v := .tuple #[.agg #[.int .i64 0,.slice none 0 0],.int .u8 0,.int .i64 8]) (by simp [results,Tryz.f28,go_sem,c3_0,c3_1]) rfl ⟨_,[],rfl,OwnS.nil _ _,?_⟩
  have hFF:=hE0.trans hE2
  first | exact hFF | exact (hFF.setCell (by simp <;> omega) _).setCell (by simp <;> omega) _
 ·have hres:=Lib.hid (use33_bad (tag:=tag) (b:=true) h6 (by decide))
  replace h6:=Lib.hid h6
  go_enter Tryz.func28,Tryz.ntmps28
  have c0_0 : World.cell? w1 ⟨w.heap.size,0,none⟩=some (.int .i64 num):=bX0.cell 0
  have c0_1 : World.cell? w1 ⟨w.heap.size,1,none⟩=some (.slice q l.length cp):=bX0.cell 1
  have c1_0 : World.cell? w1 ⟨w.heap.size+1,0,none⟩=some (.int .i64 tag):=bX1.cell 0
  have c2_0 : World.cell? w1 ⟨w.heap.size+1+1,0,none⟩=some (.slice a2 run.length cp2):=bX2.cell 0
  have c3_0 : World.cell? w1 ⟨w.heap.size+1+1+1,0,none⟩=some (.int .i64 0):=bX3.cell 0
  have c3_1 : World.cell? w1 ⟨w.heap.size+1+1+1,1,none⟩=some (.slice none 0 0):=bX3.cell 1
  go_wp2_with fail
  clear c0_0 c0_1 c1_0 c2_0 c3_0 c3_1
  clear hw1
  refine (stacks_asked hL.out hV.out).mono ?_
  rintro e w2 ⟨rfl,hE2⟩
  rw [h6.out]
  have c0_0 : World.cell? w2 ⟨w.heap.size,0,none⟩=some (.int .i64 num):=(bX0.ext hE2).cell 0
  have c0_1 : World.cell? w2 ⟨w.heap.size,1,none⟩=some (.slice q l.length cp):=(bX0.ext hE2).cell 1
  have c1_0 : World.cell? w2 ⟨w.heap.size+1,0,none⟩=some (.int .i64 tag):=(bX1.ext hE2).cell 0
  have c2_0 : World.cell? w2 ⟨w.heap.size+1+1,0,none⟩=some (.slice a2 run.length cp2):=(bX2.ext hE2).cell 0
  have c3_0 : World.cell? w2 ⟨w.heap.size+1+1+1,0,none⟩=some (.int .i64 0):=(bX3.ext hE2).cell 0
  have c3_1 : World.cell? w2 ⟨w.heap.size+1+1+1,1,none⟩=some (.slice none 0 0):=(bX3.ext hE2).cell 1
  have f0:=(bX3.ext hE2).frozen 0
  have f1:=(bX3.ext hE2).frozen 1
  go_wp2
  rw [hres.out]
  refine bodyPost_ret (v := .tuple #[.agg #[.int .i64 0,.slice none 0 0],.int .u8 0,.int .i64 6]) (by simp [results,Tryz.f28,go_sem,c3_0,c3_1]) rfl ⟨_,[],rfl,OwnS.nil _ _,?_⟩
  have hFF:=hE0.trans hE2
  first | exact hFF | exact (hFF.setCell (by simp <;> omega) _).setCell (by simp <;> omega) _
 have hin2:=hin
 unfold inR33 at hin2
 dsimp only at hin2
 obtain ⟨fa,rfl⟩ : ∃ m : Nat,a=m:=⟨a.toNat,by omega⟩
 obtain ⟨fn,rfl⟩ : ∃ m : Nat,n=m:=⟨n.toNat,by omega⟩
 have hin3 : fa < l.length∧1≤fn∧fn≤l.length - fa:=by omega
 have hsm : Hid (l.length≤2 ∧ ∀ s ∈ l,s.length≤600):=Hid.mk (okK_small33 hkk)
 replace hin3:=Lib.hid hin3
 clear hin hin2 hok hkk
 have hres:=Lib.hid (use33_ok (tag:=tag) (b:=true) h0)
 replace h0:=Lib.hid h0
 obtain ⟨⟨⟨yn,yl⟩,u,e3⟩,hy⟩ : ∃ z,eachR (fun l=>useR l tag true run) ⟨num,l⟩ fa fn=z:=⟨_,rfl⟩
 replace hy:=Lib.hid hy
 go_enter Tryz.func28,Tryz.ntmps28
 have c0_0 : World.cell? w1 ⟨w.heap.size,0,none⟩=some (.int .i64 num):=bX0.cell 0
 have c0_1 : World.cell? w1 ⟨w.heap.size,1,none⟩=some (.slice q l.length cp):=bX0.cell 1
 have c1_0 : World.cell? w1 ⟨w.heap.size+1,0,none⟩=some (.int .i64 tag):=bX1.cell 0
 have c2_0 : World.cell? w1 ⟨w.heap.size+1+1,0,none⟩=some (.slice a2 run.length cp2):=bX2.cell 0
 have c3_0 : World.cell? w1 ⟨w.heap.size+1+1+1,0,none⟩=some (.int .i64 0):=bX3.cell 0
 have c3_1 : World.cell? w1 ⟨w.heap.size+1+1+1,1,none⟩=some (.slice none 0 0):=bX3.cell 1
 go_wp2_with fail
 clear c0_0 c0_1 c1_0 c2_0 c3_0 c3_1
 clear hw1
 refine (stacks_asked hL.out hV.out).mono ?_
 rintro e w2 ⟨rfl,hE2⟩
 rw [h0.out]
 have c0_0 : World.cell? w2 ⟨w.heap.size,0,none⟩=some (.int .i64 num):=(bX0.ext hE2).cell 0
 have c0_1 : World.cell? w2 ⟨w.heap.size,1,none⟩=some (.slice q l.length cp):=(bX0.ext hE2).cell 1
 have c1_0 : World.cell? w2 ⟨w.heap.size+1,0,none⟩=some (.int .i64 tag):=(bX1.ext hE2).cell 0
 have c2_0 : World.cell? w2 ⟨w.heap.size+1+1,0,none⟩=some (.slice a2 run.length cp2):=(bX2.ext hE2).cell 0
 have c3_0 : World.cell? w2 ⟨w.heap.size+1+1+1,0,none⟩=some (.int .i64 0):=(bX3.ext hE2).cell 0
 have c3_1 : World.cell? w2 ⟨w.heap.size+1+1+1,1,none⟩=some (.slice none 0 0):=(bX3.ext hE2).cell 1
 have f0:=(bX3.ext hE2).frozen 0
 have f1:=(bX3.ext hE2).frozen 1
 go_wp2_with fail
 refine (stacks_each callFunc_write33 (stacks_write1 tag (w.heap.size+1) (w.heap.size+1+1) _ c1_0 c2_0 (hV.out.ext hE2)) hsm.out hin3.out (hL.out.ext hE2)).mono ?_
 rintro e w4 ⟨v4,vs4,rfl,h4,hE4⟩
 rw [hy.out] at h4 ⊢
 dsimp only at h4 ⊢
 clear c0_0 c0_1 c1_0 c2_0 c3_0 c3_1 f0 f1
 obtain ⟨a4,k4,rfl,-⟩:=h4.sts.form
 replace h4:=Lib.hid h4
 have c0 : World.cell? w4 ⟨w.heap.size+1+1+1,0,none⟩=some (.int .i64 0):=((bX3.ext hE2).ext hE4).cell 0
 have c1 : World.cell? w4 ⟨w.heap.size+1+1+1,1,none⟩=some (.slice none 0 0):=((bX3.ext hE2).ext hE4).cell 1
 have f0:=((bX3.ext hE2).ext hE4).frozen 0
 have f1:=((bX3.ext hE2).ext hE4).frozen 1
 have hlt:=bX3.lt
 have hsz2:=hE2.size
 go_wp2
 rw [hres.out,hy.out]
 have hY:=((ExtBut.setCell w4 ⟨w.heap.size+1+1+1,0,none⟩ (.int .i64 yn)).mono (S':=fun b=>b=w.heap.size+1+1+1) (fun x _ h=>h)).trans ((ExtBut.setCell _ ⟨w.heap.size+1+1+1,1,none⟩ (.slice a4 yl.length k4)).mono (S':=fun b=>b=w.heap.size+1+1+1) (fun x _ h=>h))
 refine bodyPost_ret (v := .tuple #[.agg #[.int .i64 yn,.slice a4 yl.length k4],.int .u8 u,.int .i64 e3]) (by simp [results,Tryz.f28,go_sem,c0,c1]) rfl ⟨_,vs4,rfl,OwnS.mono (B:=w2.heap.size) (B':=w.heap.size) (OwnS.but h4.out hY (fun g e h=>by omega)) (by omega),ExtBut.ext ((hE0.trans hE2).trans hE4) hY (fun x h=>by omega)⟩
set_option maxHeartbeats 3200000 in
theorem stacks_Retag {l : List (List Item)} {num a n : Int} {kind : Int} {run : List Int} {s v : Value} {w : World} (hp : Perms w) (hk : u8B kind) (tag : Int) (it : Item) (hl : Sts w s l) (hr : Nts w v run) :
  Calls Tryz.prog 36 #[.agg #[.int .i64 num,s],.int .i64 a,.int .i64 n,.int .u8 kind,.int .i64 tag,it.val,v] w (RetKW w (tag33 ⟨num,l⟩ a n kind tag it run).1 (tag33 ⟨num,l⟩ a n kind tag it run).2.1 (tag33 ⟨num,l⟩ a n kind tag it run).2.2):=by
 obtain ⟨p,t,c⟩:=it
 obtain ⟨q,cp,rfl,-⟩:=hl.form
 obtain ⟨a2,cp2,rfl,-⟩:=hr.form
 have hE0 : Ext w (World.alloc (World.alloc (World.alloc (World.alloc (World.alloc (World.alloc w (.cells #[.int .i64 num,.slice q l.length cp] 69)) (.cells #[.int .u8 kind] 5)) (.cells #[.int .i64 tag] 3)) (.cells #[.int .u8 p,.int .i64 t,.int .i64 c] 89)) (.cells #[.slice a2 run.length cp2] 28)) (.cells #[.int .i64 0,.slice none 0 0] 69)):=((((((Ext.refl w).alloc (.cells #[.int .i64 num,.slice q l.length cp] 69)).alloc (.cells #[.int .u8 kind] 5)).alloc (.cells #[.int .i64 tag] 3)).alloc (.cells #[.int .u8 p,.int .i64 t,.int .i64 c] 89)).alloc (.cells #[.slice a2 run.length cp2] 28)).alloc (.cells #[.int .i64 0,.slice none 0 0] 69)
 have bX0:=(((((Box.new w 69 #[.int .i64 num,.slice q l.length cp]).ext ((Ext.refl _).alloc (.cells #[.int .u8 kind] 5))).ext ((Ext.refl _).alloc (.cells #[.int .i64 tag] 3))).ext ((Ext.refl _).alloc (.cells #[.int .u8 p,.int .i64 t,.int .i64 c] 89))).ext ((Ext.refl _).alloc (.cells #[.slice a2 run.length cp2] 28))).ext ((Ext.refl _).alloc (.cells #[.int .i64 0,.slice none 0 0] 69))
 have bX1:=((((Box.new (World.alloc w (.cells #[.int .i64 num,.slice q l.length cp] 69)) 5 #[.int .u8 kind]).ext ((Ext.refl _).alloc (.cells #[.int .i64 tag] 3))).ext ((Ext.refl _).alloc (.cells #[.int .u8 p,.int .i64 t,.int .i64 c] 89))).ext ((Ext.refl _).alloc (.cells #[.slice a2 run.length cp2] 28))).ext ((Ext.refl _).alloc (.cells #[.int .i64 0,.slice none 0 0] 69))
 have bX2:=(((Box.new (World.alloc (World.alloc w (.cells #[.int .i64 num,.slice q l.length cp] 69)) (.cells #[.int .u8 kind] 5)) 3 #[.int .i64 tag]).ext ((Ext.refl _).alloc (.cells #[.int .u8 p,.int .i64 t,.int .i64 c] 89))).ext ((Ext.refl _).alloc (.cells #[.slice a2 run.length cp2] 28))).ext ((Ext.refl _).alloc (.cells #[.int .i64 0,.slice none 0 0] 69))
 have bX3:=((Box.new (World.alloc (World.alloc (World.alloc w (.cells #[.int .i64 num,.slice q l.length cp] 69)) (.cells #[.int .u8 kind] 5)) (.cells #[.int .i64 tag] 3)) 89 #[.int .u8 p,.int .i64 t,.int .i64 c]).ext ((Ext.refl _).alloc (.cells #[.slice a2 run.length cp2] 28))).ext ((Ext.refl _).alloc (.cells #[.int .i64 0,.slice none 0 0] 69))
 have bX4:=(Box.new (World.alloc (World.alloc (World.alloc (World.alloc w (.cells #[.int .i64 num,.slice q l.length cp] 69)) (.cells #[.int .u8 kind] 5)) (.cells #[.int .i64 tag] 3)) (.cells #[.int .u8 p,.int .i64 t,.int .i64 c] 89)) 28 #[.slice a2 run.length cp2]).ext ((Ext.refl _).alloc (.cells #[.int .i64 0,.slice none 0 0] 69))
 have bX5:=Box.new (World.alloc (World.alloc (World.alloc (World.alloc (World.alloc w (.cells #[.int .i64 num,.slice q l.length cp] 69)) (.cells #[.int .u8 kind] 5)) (.cells #[.int .i64 tag] 3)) (.cells #[.int .u8 p,.int .i64 t,.int .i64 c] 89)) (.cells #[.slice a2 run.length cp2] 28)) 69 #[.int .i64 0,.slice none 0 0]
 simp only [World.size_alloc] at bX0 bX1 bX2 bX3 bX4 bX5
 have hL:=Lib.hid (hl.ext hE0)
 have hV:=Lib.hid (hr.ext hE0)
 have hP:=Lib.hid (hp.ext hE0)
 clear hp
 replace hk:=Lib.hid hk
 unfold Item.val
 have hmf : ∀ (fn : Fn) (first cap : Array Value) (w : World),(Instr.makeFunc fn first cap).run Tryz.prog w = .ok (.func fn first cap) w:=fun _ _ _ _=>rfl
 clear hl hr
 obtain ⟨w1,hw1⟩ : ∃ z,(World.alloc (World.alloc (World.alloc (World.alloc (World.alloc (World.alloc w (.cells #[.int .i64 num,.slice q l.length cp] 69)) (.cells #[.int .u8 kind] 5)) (.cells #[.int .i64 tag] 3)) (.cells #[.int .u8 p,.int .i64 t,.int .i64 c] 89)) (.cells #[.slice a2 run.length cp2] 28)) (.cells #[.int .i64 0,.slice none 0 0] 69))=z:=⟨_,rfl⟩
 rw [hw1] at hE0 hL hV hP bX0 bX1 bX2 bX3 bX4 bX5
 rcases ask33_cases ⟨num,l⟩ a n run with h8 | h6 | ⟨h0,hok,hkk,hin⟩
 ·have hres:=Lib.hid (tag33_bad (k:=kind) (old:=tag) (it:=⟨p,t,c⟩) h8 (by decide))
  replace h8:=Lib.hid h8
  go_enter Tryz.func36,Tryz.ntmps36
  have c0_0 : World.cell? w1 ⟨w.heap.size,0,none⟩=some (.int .i64 num):=bX0.cell 0
  have c0_1 : World.cell? w1 ⟨w.heap.size,1,none⟩=some (.slice q l.length cp):=bX0.cell 1
  have c1_0 : World.cell? w1 ⟨w.heap.size+1,0,none⟩=some (.int .u8 kind):=bX1.cell 0
  have c2_0 : World.cell? w1 ⟨w.heap.size+1+1,0,none⟩=some (.int .i64 tag):=bX2.cell 0
  have c3_0 : World.cell? w1 ⟨w.heap.size+1+1+1,0,none⟩=some (.int .u8 p):=bX3.cell 0
  have c3_1 : World.cell? w1 ⟨w.heap.size+1+1+1,1,none⟩=some (.int .i64 t):=bX3.cell 1
  have c3_2 : World.cell? w1 ⟨w.heap.size+1+1+1,2,none⟩=some (.int .i64 c):=bX3.cell 2
  have c4_0 : World.cell? w1 ⟨w.heap.size+1+1+1+1,0,none⟩=some (.slice a2 run.length cp2):=bX4.cell 0
  have c5_0 : World.cell? w1 ⟨w.heap.size+1+1+1+1+1,0,none⟩=some (.int .i64 0):=bX5.cell 0
  have c5_1 : World.cell? w1 ⟨w.heap.size+1+1+1+1+1,1,none⟩=some (.slice none 0 0):=bX5.cell 1
  go_wp2_with fail
  clear c0_0 c0_1 c1_0 c2_0 c3_0 c3_1 c3_2 c4_0 c5_0 c5_1
  clear hw1
  refine (stacks_asked hL.out hV.out).mono ?_
  rintro e w2 ⟨rfl,hE2⟩
  rw [h8.out]
  have c0_0 : World.cell? w2 ⟨w.heap.size,0,none⟩=some (.int .i64 num):=(bX0.ext hE2).cell 0
  have c0_1 : World.cell? w2 ⟨w.heap.size,1,none⟩=some (.slice q l.length cp):=(bX0.ext hE2).cell 1
  have c1_0 : World.cell? w2 ⟨w.heap.size+1,0,none⟩=some (.int .u8 kind):=(bX1.ext hE2).cell 0
  have c2_0 : World.cell? w2 ⟨w.heap.size+1+1,0,none⟩=some (.int .i64 tag):=(bX2.ext hE2).cell 0
  have c3_0 : World.cell? w2 ⟨w.heap.size+1+1+1,0,none⟩=some (.int .u8 p):=(bX3.ext hE2).cell 0
  have c3_1 : World.cell? w2 ⟨w.heap.size+1+1+1,1,none⟩=some (.int .i64 t):=(bX3.ext hE2).cell 1
  have c3_2 : World.cell? w2 ⟨w.heap.size+1+1+1,2,none⟩=some (.int .i64 c):=(bX3.ext hE2).cell 2
  have c4_0 : World.cell? w2 ⟨w.heap.size+1+1+1+1,0,none⟩=some (.slice a2 run.length cp2):=(bX4.ext hE2).cell 0
  have c5_0 : World.cell? w2 ⟨w.heap.size+1+1+1+1+1,0,none⟩=some (.int .i64 0):=(bX5.ext hE2).cell 0
  have c5_1 : World.cell? w2 ⟨w.heap.size+1+1+1+1+1,1,none⟩=some (.slice none 0 0):=(bX5.ext hE2).cell 1
  have f0:=(bX5.ext hE2).frozen 0
  have f1:=(bX5.ext hE2).frozen 1
  go_wp2
  rw [hres.out]
  refine bodyPost_ret (v := .tuple #[.agg #[.int .i64 0,.slice none 0 0],.int .u8 0,.int .i64 8]) (by simp [results,Tryz.f36,go_sem,c5_0,c5_1]) rfl ⟨_,[],rfl,OwnS.nil _ _,?_⟩
  have hFF:=hE0.trans hE2
  first | exact hFF | exact (hFF.setCell (by simp <;> omega) _).setCell (by simp <;> omega) _
 ·have hres:=Lib.hid (tag33_bad (k:=kind) (old:=tag) (it:=⟨p,t,c⟩) h6 (by decide))
  replace h6:=Lib.hid h6
  go_enter Tryz.func36,Tryz.ntmps36
  have c0_0 : World.cell? w1 ⟨w.heap.size,0,none⟩=some (.int .i64 num):=bX0.cell 0
  have c0_1 : World.cell? w1 ⟨w.heap.size,1,none⟩=some (.slice q l.length cp):=bX0.cell 1
  have c1_0 : World.cell? w1 ⟨w.heap.size+1,0,none⟩=some (.int .u8 kind):=bX1.cell 0
  have c2_0 : World.cell? w1 ⟨w.heap.size+1+1,0,none⟩=some (.int .i64 tag):=bX2.cell 0
  have c3_0 : World.cell? w1 ⟨w.heap.size+1+1+1,0,none⟩=some (.int .u8 p):=bX3.cell 0
  have c3_1 : World.cell? w1 ⟨w.heap.size+1+1+1,1,none⟩=some (.int .i64 t):=bX3.cell 1
  have c3_2 : World.cell? w1 ⟨w.heap.size+1+1+1,2,none⟩=some (.int .i64 c):=bX3.cell 2
  have c4_0 : World.cell? w1 ⟨w.heap.size+1+1+1+1,0,none⟩=some (.slice a2 run.length cp2):=bX4.cell 0
  have c5_0 : World.cell? w1 ⟨w.heap.size+1+1+1+1+1,0,none⟩=some (.int .i64 0):=bX5.cell 0
  have c5_1 : World.cell? w1 ⟨w.heap.size+1+1+1+1+1,1,none⟩=some (.slice none 0 0):=bX5.cell 1
  go_wp2_with fail
  clear c0_0 c0_1 c1_0 c2_0 c3_0 c3_1 c3_2 c4_0 c5_0 c5_1
  clear hw1
  refine (stacks_asked hL.out hV.out).mono ?_
  rintro e w2 ⟨rfl,hE2⟩
  rw [h6.out]
  have c0_0 : World.cell? w2 ⟨w.heap.size,0,none⟩=some (.int .i64 num):=(bX0.ext hE2).cell 0
  have c0_1 : World.cell? w2 ⟨w.heap.size,1,none⟩=some (.slice q l.length cp):=(bX0.ext hE2).cell 1
  have c1_0 : World.cell? w2 ⟨w.heap.size+1,0,none⟩=some (.int .u8 kind):=(bX1.ext hE2).cell 0
  have c2_0 : World.cell? w2 ⟨w.heap.size+1+1,0,none⟩=some (.int .i64 tag):=(bX2.ext hE2).cell 0
  have c3_0 : World.cell? w2 ⟨w.heap.size+1+1+1,0,none⟩=some (.int .u8 p):=(bX3.ext hE2).cell 0
  have c3_1 : World.cell? w2 ⟨w.heap.size+1+1+1,1,none⟩=some (.int .i64 t):=(bX3.ext hE2).cell 1
  have c3_2 : World.cell? w2 ⟨w.heap.size+1+1+1,2,none⟩=some (.int .i64 c):=(bX3.ext hE2).cell 2
  have c4_0 : World.cell? w2 ⟨w.heap.size+1+1+1+1,0,none⟩=some (.slice a2 run.length cp2):=(bX4.ext hE2).cell 0
  have c5_0 : World.cell? w2 ⟨w.heap.size+1+1+1+1+1,0,none⟩=some (.int .i64 0):=(bX5.ext hE2).cell 0
  have c5_1 : World.cell? w2 ⟨w.heap.size+1+1+1+1+1,1,none⟩=some (.slice none 0 0):=(bX5.ext hE2).cell 1
  have f0:=(bX5.ext hE2).frozen 0
  have f1:=(bX5.ext hE2).frozen 1
  go_wp2
  rw [hres.out]
  refine bodyPost_ret (v := .tuple #[.agg #[.int .i64 0,.slice none 0 0],.int .u8 0,.int .i64 6]) (by simp [results,Tryz.f36,go_sem,c5_0,c5_1]) rfl ⟨_,[],rfl,OwnS.nil _ _,?_⟩
  have hFF:=hE0.trans hE2
  first | exact hFF | exact (hFF.setCell (by simp <;> omega) _).setCell (by simp <;> omega) _
 have hin2:=hin
 unfold inR33 at hin2
 dsimp only at hin2
 obtain ⟨fa,rfl⟩ : ∃ m : Nat,a=m:=⟨a.toNat,by omega⟩
 obtain ⟨fn,rfl⟩ : ∃ m : Nat,n=m:=⟨n.toNat,by omega⟩
 have hin3 : fa < l.length∧1≤fn∧fn≤l.length - fa:=by omega
 have hsm : Hid (l.length≤2 ∧ ∀ s ∈ l,s.length≤600):=Hid.mk (okK_small33 hkk)
 replace hin3:=Lib.hid hin3
 clear hin hin2 hok hkk
 cases hko : kindOk kind
 ·have hres:=Lib.hid (tag33_arg (old:=tag) (it:=⟨p,t,c⟩) h0 hko)
  have hke:=Lib.hid (kindErr_no hko)
  have hkk:=kind_no hko hk.out
  replace h0:=Lib.hid h0
  clear hko
  go_enter Tryz.func36,Tryz.ntmps36
  have c0_0 : World.cell? w1 ⟨w.heap.size,0,none⟩=some (.int .i64 num):=bX0.cell 0
  have c0_1 : World.cell? w1 ⟨w.heap.size,1,none⟩=some (.slice q l.length cp):=bX0.cell 1
  have c1_0 : World.cell? w1 ⟨w.heap.size+1,0,none⟩=some (.int .u8 kind):=bX1.cell 0
  have c2_0 : World.cell? w1 ⟨w.heap.size+1+1,0,none⟩=some (.int .i64 tag):=bX2.cell 0
  have c3_0 : World.cell? w1 ⟨w.heap.size+1+1+1,0,none⟩=some (.int .u8 p):=bX3.cell 0
  have c3_1 : World.cell? w1 ⟨w.heap.size+1+1+1,1,none⟩=some (.int .i64 t):=bX3.cell 1
  have c3_2 : World.cell? w1 ⟨w.heap.size+1+1+1,2,none⟩=some (.int .i64 c):=bX3.cell 2
  have c4_0 : World.cell? w1 ⟨w.heap.size+1+1+1+1,0,none⟩=some (.slice a2 run.length cp2):=bX4.cell 0
  have c5_0 : World.cell? w1 ⟨w.heap.size+1+1+1+1+1,0,none⟩=some (.int .i64 0):=bX5.cell 0
  have c5_1 : World.cell? w1 ⟨w.heap.size+1+1+1+1+1,1,none⟩=some (.slice none 0 0):=bX5.cell 1
  go_wp2_with fail
  clear c0_0 c0_1 c1_0 c2_0 c3_0 c3_1 c3_2 c4_0 c5_0 c5_1
  clear hw1
  refine (stacks_asked hL.out hV.out).mono ?_
  rintro e w2 ⟨rfl,hE2⟩
  rw [h0.out]
  have c0_0 : World.cell? w2 ⟨w.heap.size,0,none⟩=some (.int .i64 num):=(bX0.ext hE2).cell 0
  have c0_1 : World.cell? w2 ⟨w.heap.size,1,none⟩=some (.slice q l.length cp):=(bX0.ext hE2).cell 1
  have c1_0 : World.cell? w2 ⟨w.heap.size+1,0,none⟩=some (.int .u8 kind):=(bX1.ext hE2).cell 0
  have c2_0 : World.cell? w2 ⟨w.heap.size+1+1,0,none⟩=some (.int .i64 tag):=(bX2.ext hE2).cell 0
  have c3_0 : World.cell? w2 ⟨w.heap.size+1+1+1,0,none⟩=some (.int .u8 p):=(bX3.ext hE2).cell 0
  have c3_1 : World.cell? w2 ⟨w.heap.size+1+1+1,1,none⟩=some (.int .i64 t):=(bX3.ext hE2).cell 1
  have c3_2 : World.cell? w2 ⟨w.heap.size+1+1+1,2,none⟩=some (.int .i64 c):=(bX3.ext hE2).cell 2
  have c4_0 : World.cell? w2 ⟨w.heap.size+1+1+1+1,0,none⟩=some (.slice a2 run.length cp2):=(bX4.ext hE2).cell 0
  have c5_0 : World.cell? w2 ⟨w.heap.size+1+1+1+1+1,0,none⟩=some (.int .i64 0):=(bX5.ext hE2).cell 0
  have c5_1 : World.cell? w2 ⟨w.heap.size+1+1+1+1+1,1,none⟩=some (.slice none 0 0):=(bX5.ext hE2).cell 1
  have f0:=(bX5.ext hE2).frozen 0
  have f1:=(bX5.ext hE2).frozen 1
  go_wp2_with fail
  refine (grant_Check _ hk.out).mono ?_
  rintro e w3 ⟨rfl,rfl⟩
  rw [hke.out]
  go_wp2
  rw [hres.out]
  refine bodyPost_ret (v := .tuple #[.agg #[.int .i64 0,.slice none 0 0],.int .u8 0,.int .i64 2]) (by simp [results,Tryz.f36,go_sem,c5_0,c5_1]) rfl ⟨_,[],rfl,OwnS.nil _ _,?_⟩
  have hFF:=hE0.trans hE2
  first | exact hFF | exact (hFF.setCell (by simp <;> omega) _).setCell (by simp <;> omega) _
 have hres:=Lib.hid (tag33_ok (old:=tag) (it:=⟨p,t,c⟩) h0 hko)
 have hke:=Lib.hid (kindErr_yes hko)
 have hof:=Lib.hid (oneR_funK tag ⟨p,t,c⟩ run hko)
 have hk4 : 1≤kind∧kind≤4:=by rcases kind_yes hko with rfl | rfl | rfl | rfl <;> omega
 have g1 : decide (kind < 1)=false:=decide_eq_false (by omega)
 have g2 : decide (4 < kind)=false:=decide_eq_false (by omega)
 clear hko hk4
 replace h0:=Lib.hid h0
 obtain ⟨⟨⟨yn,yl⟩,u,e3⟩,hy⟩ : ∃ z,eachR (fun l=>tagR l kind tag ⟨p,t,c⟩ run) ⟨num,l⟩ fa fn=z:=⟨_,rfl⟩
 replace hy:=Lib.hid hy
 go_enter Tryz.func36,Tryz.ntmps36
 have c0_0 : World.cell? w1 ⟨w.heap.size,0,none⟩=some (.int .i64 num):=bX0.cell 0
 have c0_1 : World.cell? w1 ⟨w.heap.size,1,none⟩=some (.slice q l.length cp):=bX0.cell 1
 have c1_0 : World.cell? w1 ⟨w.heap.size+1,0,none⟩=some (.int .u8 kind):=bX1.cell 0
 have c2_0 : World.cell? w1 ⟨w.heap.size+1+1,0,none⟩=some (.int .i64 tag):=bX2.cell 0
 have c3_0 : World.cell? w1 ⟨w.heap.size+1+1+1,0,none⟩=some (.int .u8 p):=bX3.cell 0
 have c3_1 : World.cell? w1 ⟨w.heap.size+1+1+1,1,none⟩=some (.int .i64 t):=bX3.cell 1
 have c3_2 : World.cell? w1 ⟨w.heap.size+1+1+1,2,none⟩=some (.int .i64 c):=bX3.cell 2
 have c4_0 : World.cell? w1 ⟨w.heap.size+1+1+1+1,0,none⟩=some (.slice a2 run.length cp2):=bX4.cell 0
 have c5_0 : World.cell? w1 ⟨w.heap.size+1+1+1+1+1,0,none⟩=some (.int .i64 0):=bX5.cell 0
 have c5_1 : World.cell? w1 ⟨w.heap.size+1+1+1+1+1,1,none⟩=some (.slice none 0 0):=bX5.cell 1
 go_wp2_with fail
 clear c0_0 c0_1 c1_0 c2_0 c3_0 c3_1 c3_2 c4_0 c5_0 c5_1
 clear hw1
 refine (stacks_asked hL.out hV.out).mono ?_
 rintro e w2 ⟨rfl,hE2⟩
 rw [h0.out]
 have c0_0 : World.cell? w2 ⟨w.heap.size,0,none⟩=some (.int .i64 num):=(bX0.ext hE2).cell 0
 have c0_1 : World.cell? w2 ⟨w.heap.size,1,none⟩=some (.slice q l.length cp):=(bX0.ext hE2).cell 1
 have c1_0 : World.cell? w2 ⟨w.heap.size+1,0,none⟩=some (.int .u8 kind):=(bX1.ext hE2).cell 0
 have c2_0 : World.cell? w2 ⟨w.heap.size+1+1,0,none⟩=some (.int .i64 tag):=(bX2.ext hE2).cell 0
 have c3_0 : World.cell? w2 ⟨w.heap.size+1+1+1,0,none⟩=some (.int .u8 p):=(bX3.ext hE2).cell 0
 have c3_1 : World.cell? w2 ⟨w.heap.size+1+1+1,1,none⟩=some (.int .i64 t):=(bX3.ext hE2).cell 1
 have c3_2 : World.cell? w2 ⟨w.heap.size+1+1+1,2,none⟩=some (.int .i64 c):=(bX3.ext hE2).cell 2
 have c4_0 : World.cell? w2 ⟨w.heap.size+1+1+1+1,0,none⟩=some (.slice a2 run.length cp2):=(bX4.ext hE2).cell 0
 have c5_0 : World.cell? w2 ⟨w.heap.size+1+1+1+1+1,0,none⟩=some (.int .i64 0):=(bX5.ext hE2).cell 0
 have c5_1 : World.cell? w2 ⟨w.heap.size+1+1+1+1+1,1,none⟩=some (.slice none 0 0):=(bX5.ext hE2).cell 1
 have f0:=(bX5.ext hE2).frozen 0
 have f1:=(bX5.ext hE2).frozen 1
 go_wp2_with fail
 refine (grant_Check _ hk.out).mono ?_
 rintro e w3 ⟨rfl,rfl⟩
 rw [hke.out]
 go_wp2_with fail
 refine (stacks_each callFunc_retag33 (stacks_retag1 hk.out tag p t c (w.heap.size+1) (w.heap.size+1+1) (w.heap.size+1+1+1) (w.heap.size+1+1+1+1) _ (hP.out.ext hE2) c1_0 c2_0 c3_0 c3_1 c3_2 c4_0 (hV.out.ext hE2)) hsm.out hin3.out (hL.out.ext hE2)).mono ?_
 rintro e w4 ⟨v4,vs4,rfl,h4,hE4⟩
 rw [hy.out] at h4 ⊢
 dsimp only at h4 ⊢
 clear c0_0 c0_1 c1_0 c2_0 c3_0 c3_1 c3_2 c4_0 c5_0 c5_1 f0 f1
 obtain ⟨a4,k4,rfl,-⟩:=h4.sts.form
 replace h4:=Lib.hid h4
 have c0 : World.cell? w4 ⟨w.heap.size+1+1+1+1+1,0,none⟩=some (.int .i64 0):=((bX5.ext hE2).ext hE4).cell 0
 have c1 : World.cell? w4 ⟨w.heap.size+1+1+1+1+1,1,none⟩=some (.slice none 0 0):=((bX5.ext hE2).ext hE4).cell 1
 have f0:=((bX5.ext hE2).ext hE4).frozen 0
 have f1:=((bX5.ext hE2).ext hE4).frozen 1
 have hlt:=bX5.lt
 have hsz2:=hE2.size
 go_wp2
 rw [hres.out,hy.out]
 have hY:=((ExtBut.setCell w4 ⟨w.heap.size+1+1+1+1+1,0,none⟩ (.int .i64 yn)).mono (S':=fun b=>b=w.heap.size+1+1+1+1+1) (fun x _ h=>h)).trans ((ExtBut.setCell _ ⟨w.heap.size+1+1+1+1+1,1,none⟩ (.slice a4 yl.length k4)).mono (S':=fun b=>b=w.heap.size+1+1+1+1+1) (fun x _ h=>h))
 refine bodyPost_ret (v := .tuple #[.agg #[.int .i64 yn,.slice a4 yl.length k4],.int .u8 u,.int .i64 e3]) (by simp [results,Tryz.f36,go_sem,c0,c1]) rfl ⟨_,vs4,rfl,OwnS.mono (B:=w2.heap.size) (B':=w.heap.size) (OwnS.but h4.out hY (fun g e h=>by omega)) (by omega),ExtBut.ext ((hE0.trans hE2).trans hE4) hY (fun x h=>by omega)⟩
end Go.Proofs.YtoanoodfacmieaaGreatDoor

/- Contracts: Get of the program and of the reference. -/
namespace Go.Proofs.YtoanoodfacmieaaGreatDoor
set_option maxRecDepth 100000
open Go.RowKit
theorem endR_bad {m : Mem} {n : Int} (h : m.ok=false) : endR m n=(Mem.zero,8):=by simp [endR,h]
theorem endR_none {m : Mem} {n : Int} (h : m.ok=true) (ha : atNum m.al n=none) : endR m n=(Mem.zero,6):=by simp [endR,h,ha]
theorem endR_dead {m : Mem} {n : Int} {i : Nat} {x : Alloc} (h : m.ok=true) (ha : atNum m.al n=some i) (hx : m.al[i]? = some x) (hl : x.live=false) : endR m n=(Mem.zero,6):=by
 simp [endR,h,ha,List.getD_eq_getElem?_getD,hx,hl]
theorem endR_live {m : Mem} {n : Int} {i : Nat} {x : Alloc} (h : m.ok=true) (ha : atNum m.al n=some i) (hx : m.al[i]? = some x) (hl : x.live=true) : endR m n=(⟨m.al.set i (ended x),m.next⟩,0):=by
 simp [endR,h,ha,List.getD_eq_getElem?_getD,hx,hl,endAt]
theorem idxM_none {l : List Alloc} {n : Int} (h : atNum l n=none) : idxM l n = -1:=by rw [idxM,h];rfl
theorem idxM_some {l : List Alloc} {n : Int} {i : Nat} (h : atNum l n=some i) : idxM l n=(i : Int):=by rw [idxM,h];rfl
end Go.Proofs.YtoanoodfacmieaaGreatDoor

/- clear: a slice that the call owns. -/
namespace Go.Proofs.YtoanoodfacmieaaGreatDoor
set_option maxRecDepth 100000
open Go.RowKit
theorem run_clear_own {P : Program} {w : World} {B : Nat} {t ty e : TypeId} {i : TypeInfo} {z : Value} {k : Nat} {v : Value} {n : Nat} {xs : List Value}
  (ht : P.underlying t=some (.slice e)) (hi : P.info? e=some i) (hz : i.zero=some z) (hzk : z.cells.size=k) (h1 : ∀ u ∈ (Builtin.zeroCells z.cells n).toList,u.oneCell'=true) (hown : Own w B e k v n xs) :
  ∃ w',(Builtin.clear_ #[t] ty #[v]).run P w = .ok (.tuple #[]) w'∧Own w' B e k v n (Builtin.zeroCells z.cells n).toList∧ExtBut (fun b=>v.ownBlock=some b) w w':=by
 have hlen : (Builtin.zeroCells z.cells n).toList.length=n * k:=by rw [Array.length_toList,size_zeroCells,hzk]
 by_cases hn : n=0
 ·subst hn
  have hnil : (Builtin.zeroCells z.cells 0).toList=[]:=List.eq_nil_of_length_eq_zero (by rw [hlen];simp)
  have hxs : xs=[]:=List.eq_nil_of_length_eq_zero (by simpa using hown.1)
  subst hxs
  rw [hnil]
  refine ⟨w,?_,hown,ExtBut.refl _ _⟩
  obtain ⟨a,cap,rfl,-⟩:=hown.sl.slice_form
  cases a <;> simp [Builtin.clear_,run_underlying ht]
 ·rcases hown.2 with ⟨_,h0⟩ | ⟨g,cap,cur,rfl,hbg,hg,hnc,hcm,hcs,htake⟩
  ·exact absurd h0 hn
  ·have hfit : n * k≤cur.size:=by rw [hcs];exact Nat.mul_le_mul_right _ hnc
   have hst:=run_storeCells_at P g 0 e (Builtin.zeroCells z.cells n).toList 0 cur w hg (by simpa [hlen] using hfit) h1
   simp only [Nat.add_zero,Nat.zero_add] at hst
   obtain ⟨n',rfl⟩ : ∃ n',n=n'+1:=⟨n - 1,by omega⟩
   refine ⟨w.setRow g ((Builtin.zeroCells z.cells (n'+1)).toList ++ cur.toList.drop ((n'+1) * k)).toArray,?_,⟨hlen,.inr ⟨g,cap,_,rfl,hbg,setRow_heap w g cur _ e _ hg,hnc,hcm,?_,?_⟩⟩,⟨rfl,rfl,rfl,by simp,fun b hb hne=>setRow_other w g b _ (fun e=>hne (by rw [e];rfl))⟩⟩
   ·have hst':=hst
    rw [hlen] at hst'
    simp [Builtin.clear_,run_underlying ht,zeroValue,typeInfo,hi,hz,hst']
   ·simp only [List.size_toArray,List.length_append,List.length_drop,Array.length_toList]
    rw [← Array.length_toList,hlen]
    omega
   ·rw [← hlen]
    exact List.take_left
theorem Als.of_put {w w5 : World} {B B' : Nat} {v s' : Value} {vs : List Value} {l : List Alloc} {i : Nat} {y : Alloc} {S : Nat→Prop} (h : OM w B v vs l) (hil : i < l.length)
  (hO : Own w5 B' 76 3 v l.length (trows arow (vs.set i s') (l.set i y))) (hX : ExtBut S w w5) (hS : ∀ (j : Nat) (s1 : Value),j≠i→vs[j]? = some s1 → ∀ g,s1.ownBlock=some g → ¬ S g) (hc : Cls w5 s' y.cells) : Als w5 v (l.set i y):=by
 have hl:=(All2.iff.1 h.inner).1
 refine ⟨vs.set i s',All2.iff.2 ⟨by simpa using hl,fun j a b ha hb => ?_⟩,by rw [List.length_set];exact hO.sl⟩
 by_cases e : i=j
 ·subst e
  rw [List.getElem?_set_self (by omega)] at ha hb
  cases ha
  cases hb
  exact hc
 ·rw [List.getElem?_set_ne e] at ha hb
  exact ExtBut.sl (OwnC.read ((All2.iff.1 h.inner).2 j a b ha hb)) hX (hS j a (fun e'=>e e'.symm) ha)
theorem OM.apart' {w : World} {B : Nat} {v s : Value} {vs : List Value} {l : List Alloc} (h : OM w B v vs l) {i : Nat} (hi : vs[i]? = some s) {b : Nat} (hb : s.ownBlock=some b) :
  ∀ (j : Nat) (s1 : Value),j≠i→vs[j]? = some s1 → ∀ g,s1.ownBlock=some g→g≠b:=fun j s1 hne hj g hg e=>h.apart j i s1 s hne hj hi g hg (by rw [hb,e])
theorem Cell.infoZ : ∃ i z,Tryz.prog.info? 37=some i∧i.zero=some z∧z.cells=#[.int .u8 0,.int .i64 0,.int .i64 0,.int .i64 0,.int .i64 0]:=by
 have h : (Tryz.prog.info? 37).map (fun i=>i.zero.map (fun z=>z.cells))=some (some #[.int .u8 0,.int .i64 0,.int .i64 0,.int .i64 0,.int .i64 0]):=by kernel_rfl
 cases hi : Tryz.prog.info? 37 with
 | none=>rw [hi] at h;simp at h
 | some i =>
  rw [hi] at h
  cases hz : i.zero with
  | none=>simp [hz] at h
  | some z=>exact ⟨i,z,rfl,hz,by simpa [hz] using h⟩
theorem zcells_zero (n : Nat) : Builtin.zeroCells #[.int .u8 0,.int .i64 0,.int .i64 0,.int .i64 0,.int .i64 0] n=zcells n:=zcells_made n
theorem zcells_one (n : Nat) : ∀ u ∈ (zcells n).toList,u.oneCell'=true:=Cell.one _
end Go.Proofs.YtoanoodfacmieaaGreatDoor
