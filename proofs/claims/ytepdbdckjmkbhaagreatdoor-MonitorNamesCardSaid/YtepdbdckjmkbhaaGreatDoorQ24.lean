/- Several texts in one: RfC, TwB. -/
import Derived.Test.YtepdbdckjmkbhaaGreatDoorQ10
import Derived.Test.YtepdbdckjmkbhaaGreatDoorQ15
import Derived.Test.YtepdbdckjmkbhaaGreatDoorQ05
import Derived.Test.YtepdbdckjmkbhaaGreatDoorQ07
import Derived.Deep.RegionLaw
/- Contracts: the reference's Twin of layer 35. (printed by gen/ref35c.py) -/
namespace Go.Proofs.YtepdbdckjmkbhaaGreatDoor
set_option maxRecDepth 100000
open Go.RowKit
theorem irow_one (l : List Int) : ∀ u ∈ l.flatMap irow,u.oneCell'=true:=by
 intro u hu
 obtain ⟨x,-,hx⟩:=List.mem_flatMap.1 hu
 simp only [irow,List.mem_singleton] at hx
 subst hx
 rfl
section
variable (N : Nat) (w0 : World) (A : List Alloc) (nx : Int) (R : List Int) (tg cl : Int)
def XTw35 (w : World) (vs : Array Value) : Prop := ∃ a c us a2 c2,vs=#[.slice a A.length c,.int .i64 nx,.slice none 0 0,.slice a2 R.length c2,.int .i64 tg,.int .i64 cl]∧OM w w0.heap.size (.slice a A.length c) us A∧Own w w0.heap.size 3 1 (.slice a2 R.length c2) R.length (R.flatMap irow)
variable {N w0 A nx R tg cl}
theorem XTw35_bxr {N : Nat} : ∀ w w' vs,XTw35 w0 A nx R tg cl w vs→BxR N 28 6 w w'→XTw35 w0 A nx R tg cl w' vs:=fun _ _ _ ⟨a,c,us,a2,c2,h1,h2,h3⟩ hR=>⟨a,c,us,a2,c2,h1,OM.bxr h2 (by decide) (by decide) hR,Own.bxr (n':=0) h3 (by decide) hR⟩
variable (N w0 A nx R tg cl)
def PrTM : PrR (BxX N 28 6 (XTw35 w0 A nx R tg cl)):=⟨fun v w => ∃ a c vs,v = .agg #[.slice a A.length c,.int .i64 nx]∧OM w w0.heap.size (.slice a A.length c) vs A,fun _ _ _ ⟨a,c,vs,h1,h2⟩ hR=>⟨a,c,vs,h1,OM.bxr h2 (by decide) (by decide) hR.rel⟩⟩
def PrTZ : PrR (BxX N 28 6 (XTw35 w0 A nx R tg cl)):=⟨fun v w => ∃ b,v = .slice (some ⟨b,0,none⟩) 0 0∧Own w w0.heap.size 3 1 (.slice (some ⟨b,0,none⟩) 0 0) 0 [],fun _ _ _ ⟨b,h1,h2⟩ hR=>⟨b,h1,Own.bxr (n':=0) h2 (by decide) hR.rel⟩⟩
def PrTR : PrR (BxX N 28 6 (XTw35 w0 A nx R tg cl)):=⟨fun v w => ∃ a c,v = .slice a R.length c∧Own w w0.heap.size 3 1 (.slice a R.length c) R.length (R.flatMap irow),fun _ _ _ ⟨a,c,h1,h2⟩ hR=>⟨a,c,h1,Own.bxr (n':=0) h2 (by decide) hR.rel⟩⟩
def PrTB : PrR (BxX N 28 6 (XTw35 w0 A nx R tg cl)):=⟨fun v w => ∃ a c vs a2 c2,v = .agg #[.slice a A.length c,.int .i64 nx,.slice none 0 0,.slice a2 R.length c2,.int .i64 tg,.int .i64 cl]∧OM w w0.heap.size (.slice a A.length c) vs A∧Own w w0.heap.size 3 1 (.slice a2 R.length c2) R.length (R.flatMap irow),
 fun _ _ _ ⟨a,c,vs,a2,c2,h1,h2,h3⟩ hR=>⟨a,c,vs,a2,c2,h1,OM.bxr h2 (by decide) (by decide) hR.rel,Own.bxr (n':=0) h3 (by decide) hR.rel⟩⟩
def PrTS : PrR (BxX N 28 6 (XTw35 w0 A nx R tg cl)):=⟨fun v w => ∃ b a c vs a2 c2,v = .pointer (some ⟨b,0,none⟩)∧N≤b∧Box w b 28 #[.slice a A.length c,.int .i64 nx,.slice none 0 0,.slice a2 R.length c2,.int .i64 tg,.int .i64 cl]∧OM w w0.heap.size (.slice a A.length c) vs A∧Own w w0.heap.size 3 1 (.slice a2 R.length c2) R.length (R.flatMap irow),
 fun _ w w' ⟨b,a,c,vs,a2,c2,h1,hN,hb,h2,h3⟩ hR=>by
 rcases hR.block b hb.lt with h4 | ⟨-,-,us,-,h6,a',c',vs',a2',c2',rfl,h7,h8⟩
 ·exact ⟨b,a,c,vs,a2,c2,h1,hN,h4.trans hb,OM.bxr h2 (by decide) (by decide) hR.rel,Own.bxr (n':=0) h3 (by decide) hR.rel⟩
 ·exact ⟨b,a',c',vs',a2',c2',h1,hN,h6,h7,h8⟩⟩
end
set_option maxRecDepth 100000 in
set_option maxHeartbeats 6400000 in
theorem ref35_TwinG {m : Mon} {sa ss sr : Value} {w : World} (hA : Als w sa m.mem.al) (hK : Kts w ss m.stks) (hR : Nts w sr m.run) (hsA : small m.mem.al)
  (hsK : m.stks.length≤1000000 ∧ ∀ x ∈ m.stks,x.cells.length≤1000000 ∧ ∀ s ∈ x.cells,s.length≤1000000) (hsR : m.run.length≤1000000) :
  Calls Tryz.prog 5 #[.agg #[sa,.int .i64 m.mem.next,ss,sr,.int .i64 m.tag,.int .i64 m.call]] w (RetTw w m):=by
 obtain ⟨⟨A,nx⟩,K,R,tg,cl⟩:=m
 dsimp only at hA hK hR hsA hsK hsR ⊢
 obtain ⟨aa,ac,rfl,hac,hacm,-⟩:=hA.form
 obtain ⟨ka,kc,rfl,hkc,hkcm,-⟩:=hK.form
 obtain ⟨ra,rc,rfl,hrc,hrcm,-⟩:=hR.form
 unfold maxLen at hacm hkcm hrcm
 obtain ⟨ni,nz,hni,hnz,hni3,hnz3,hnby⟩:=Int.infoE
 obtain ⟨ki,kz,hki,hkz,hki3,hkz3,hkby⟩:=Stacks.infoE
 replace hni:=Lib.hid hni;replace hnz:=Lib.hid hnz;replace hni3:=Lib.hid hni3;replace hnz3:=Lib.hid hnz3;replace hnby:=Lib.hid hnby
 replace hki:=Lib.hid hki;replace hkz:=Lib.hid hkz;replace hki3:=Lib.hid hki3;replace hkz3:=Lib.hid hkz3;replace hkby:=Lib.hid hkby
 have hE0 : Ext w ((w.alloc (.cells #[.slice aa A.length ac,.int .i64 nx,.slice ka K.length kc,.slice ra R.length rc,.int .i64 tg,.int .i64 cl] 28)).alloc (.cells #[.slice none 0 0,.int .i64 0,.slice none 0 0,.slice none 0 0,.int .i64 0,.int .i64 0] 28)):=((Ext.refl w).alloc _).alloc _
 have bM:=(Box.new w 28 #[.slice aa A.length ac,.int .i64 nx,.slice ka K.length kc,.slice ra R.length rc,.int .i64 tg,.int .i64 cl]).ext ((Ext.refl _).alloc (.cells #[.slice none 0 0,.int .i64 0,.slice none 0 0,.slice none 0 0,.int .i64 0,.int .i64 0] 28))
 have bR:=Box.new (w.alloc (.cells #[.slice aa A.length ac,.int .i64 nx,.slice ka K.length kc,.slice ra R.length rc,.int .i64 tg,.int .i64 cl] 28)) 28 #[.slice none 0 0,.int .i64 0,.slice none 0 0,.slice none 0 0,.int .i64 0,.int .i64 0]
 rw [World.size_alloc] at bR
 have hAl:=Lib.hid hA;have hKl:=Lib.hid hK;have hRl:=Lib.hid hR
 replace hsA:=Lib.hid hsA;replace hsK:=Lib.hid hsK;replace hsR:=Lib.hid hsR
 clear hA hK hR
 go_enter Tryz.func5,Tryz.ntmps5
 go_upto_region 1 with fail
 obtain ⟨w0,hw0⟩ : ∃ z,(w.alloc (.cells #[.slice aa A.length ac,.int .i64 nx,.slice ka K.length kc,.slice ra R.length rc,.int .i64 tg,.int .i64 cl] 28)).alloc (.cells #[.slice none 0 0,.int .i64 0,.slice none 0 0,.slice none 0 0,.int .i64 0,.int .i64 0] 28)=z:=⟨_,rfl⟩
 have hs0 : w0.heap.size=w.heap.size+2:=by rw [← hw0];simp
 rw [hw0] at hE0 bM bR ⊢
 clear hw0
 have hs0:=Lib.hid hs0
 obtain ⟨MB,hMB⟩ : ∃ n,Array.size (World.heap w)=n:=⟨_,rfl⟩
 rw [hMB] at bM bR ⊢
 replace hMB:=Lib.hid hMB
 have m0 : World.cell? w0 ⟨MB,0,none⟩=some (.slice aa A.length ac):=bM.cell 0
 have m1 : World.cell? w0 ⟨MB,1,none⟩=some (.int .i64 nx):=bM.cell 1
 have m2 : World.cell? w0 ⟨MB,2,none⟩=some (.slice ka K.length kc):=bM.cell 2
 have m3 : World.cell? w0 ⟨MB,3,none⟩=some (.slice ra R.length rc):=bM.cell 3
 have m4 : World.cell? w0 ⟨MB,4,none⟩=some (.int .i64 tg):=bM.cell 4
 have m5 : World.cell? w0 ⟨MB,5,none⟩=some (.int .i64 cl):=bM.cell 5
 refine wp_region_rel (R:=(BxX w0.drew.heap.size 28 6 (XTw35 w0 A nx R tg cl))) BxX.refl (fun _ _ _=>BxX.trans XTw35_bxr) [PrR.eq _ (.pointer (some ⟨MB,0,none⟩)),PrR.eq _ (.agg #[.slice aa A.length ac,.int .i64 nx]),(PrTM w0.drew.heap.size w0 A nx R tg cl),(PrTZ w0.drew.heap.size w0 A nx R tg cl),PrR.eq _ (.pointer (some ⟨MB,3,none⟩)),PrR.eq _ (.slice ra R.length rc),(PrTR w0.drew.heap.size w0 A nx R tg cl),PrR.eq _ (.pointer (some ⟨MB,4,none⟩)),PrR.eq _ (.int .i64 tg),PrR.eq _ (.pointer (some ⟨MB,5,none⟩)),PrR.eq _ (.int .i64 cl),(PrTB w0.drew.heap.size w0 A nx R tg cl),(PrR.up (PrRB w0.drew.heap.size 28 6)),(PrTS w0.drew.heap.size w0 A nx R tg cl)] (by kernel_rfl) (by kernel_rfl) ?_ ?_
 ·refine ⟨?_,?_,?_,?_,?_,?_,?_,?_,?_,?_,?_,?_,?_,?_,trivial⟩
  ·intro a w hE hd ho
   refine .inl ⟨rfl,?_⟩
   intro K hK
   have hF : Ext w0 w:=Ext.trans ((Ext.refl _).drew) (BxX.to_ext hE (Nat.le_refl _))
   have e1 : a.eval (.tmp 1) = .pointer (some ⟨MB,0,none⟩):=ho 1 (by kernel_rfl)
   rw [eval_tmp] at e1
   clear m0 m1 m2 m3 m4 m5
   clear hd ho
   replace hK:=Lib.hid hK
   go_simp
   exact hK.out _ _ rfl (BxX.refl _)
  ·intro a w hE hd ho
   refine .inl ⟨rfl,?_⟩
   intro K hK
   have hF : Ext w0 w:=Ext.trans ((Ext.refl _).drew) (BxX.to_ext hE (Nat.le_refl _))
   have e5 : a.eval (.tmp 5) = .pointer (some ⟨MB,0,none⟩):=hd 0 (by kernel_rfl)
   rw [eval_tmp] at e5
   have m0w:=Ext.cell hF m0
   have m1w:=Ext.cell hF m1
   clear m0 m1 m2 m3 m4 m5
   clear hd ho
   replace hK:=Lib.hid hK
   go_simp
   exact hK.out _ _ rfl (BxX.refl _)
  ·intro a w hE hd ho
   refine .inl ⟨rfl,?_⟩
   intro K hK
   have hF : Ext w0 w:=Ext.trans ((Ext.refl _).drew) (BxX.to_ext hE (Nat.le_refl _))
   have e6 : a.eval (.tmp 6) = .agg #[.slice aa A.length ac,.int .i64 nx]:=hd 1 (by kernel_rfl)
   rw [eval_tmp] at e6
   clear m0 m1 m2 m3 m4 m5
   clear hd ho
   replace hK:=Lib.hid hK
   go_simp
   refine (ref26_Twin (next:=nx) (hAl.out.ext (hE0.trans hF)) hsA.out).mono ?_
   rintro e wz ⟨v1,vs1,rfl,hO1,hZ⟩
   obtain ⟨a1,c1,rfl,-⟩:=hO1.outer.sl.slice_form
   go_simp
   exact hK.out _ _ ⟨_,_,_,rfl,OM.mono hO1 (hF.size)⟩ (BxX.of_ext hZ)
  ·intro a w hE hd ho
   refine .inl ⟨rfl,?_⟩
   intro K hK
   have hF : Ext w0 w:=Ext.trans ((Ext.refl _).drew) (BxX.to_ext hE (Nat.le_refl _))
   clear m0 m1 m2 m3 m4 m5
   clear hd ho
   replace hK:=Lib.hid hK
   go_simp
   exact hK.out _ _ ⟨_,rfl,Own.made' _ _ _ _ (hF.size)⟩ (BxX.of_ext ((Ext.refl _).alloc _))
  ·intro a w hE hd ho
   refine .inl ⟨rfl,?_⟩
   intro K hK
   have hF : Ext w0 w:=Ext.trans ((Ext.refl _).drew) (BxX.to_ext hE (Nat.le_refl _))
   have e1 : a.eval (.tmp 1) = .pointer (some ⟨MB,0,none⟩):=ho 1 (by kernel_rfl)
   rw [eval_tmp] at e1
   clear m0 m1 m2 m3 m4 m5
   clear hd ho
   replace hK:=Lib.hid hK
   go_simp
   exact hK.out _ _ rfl (BxX.refl _)
  ·intro a w hE hd ho
   refine .inl ⟨rfl,?_⟩
   intro K hK
   have hF : Ext w0 w:=Ext.trans ((Ext.refl _).drew) (BxX.to_ext hE (Nat.le_refl _))
   have e9 : a.eval (.tmp 9) = .pointer (some ⟨MB,3,none⟩):=hd 4 (by kernel_rfl)
   rw [eval_tmp] at e9
   have m3w:=Ext.cell hF m3
   clear m0 m1 m2 m3 m4 m5
   clear hd ho
   replace hK:=Lib.hid hK
   go_simp
   exact hK.out _ _ rfl (BxX.refl _)
  ·intro a w hE hd ho
   refine .inl ⟨rfl,?_⟩
   intro K hK
   have hF : Ext w0 w:=Ext.trans ((Ext.refl _).drew) (BxX.to_ext hE (Nat.le_refl _))
   obtain ⟨xb8,e8,g8⟩ : ∃ b,a.eval (.tmp 8) = .slice (some ⟨b,0,none⟩) 0 0∧Own w w0.heap.size 3 1 (.slice (some ⟨b,0,none⟩) 0 0) 0 []:=hd 3 (by kernel_rfl)
   rw [eval_tmp] at e8
   have e10 : a.eval (.tmp 10) = .slice ra R.length rc:=hd 5 (by kernel_rfl)
   rw [eval_tmp] at e10
   clear m0 m1 m2 m3 m4 m5
   clear hd ho
   replace hK:=Lib.hid hK
   refine wp_append_lit0 (.tmp 8) (.tmp 10) 26 26 rfl ((eval_tmp a 8).trans e8) ((eval_tmp a 10).trans e10) Tryz.underlying26 Tryz.underlying26 hni.out hnz.out hni3.out hnz3.out g8 (hRl.out.ext (hE0.trans hF)) (irow_one R) (by have:=hsR.out;simp [maxLen];omega) (by rw [hnby.out];have:=hsR.out;omega) hF.size ?_
   intro v1 w1 hO1 hE1
   obtain ⟨a1,c1,rfl,-⟩:=hO1.sl.slice_form
   exact hK.out _ _ ⟨_,_,rfl,hO1⟩ (BxX.of_ext hE1)
  ·intro a w hE hd ho
   refine .inl ⟨rfl,?_⟩
   intro K hK
   have hF : Ext w0 w:=Ext.trans ((Ext.refl _).drew) (BxX.to_ext hE (Nat.le_refl _))
   have e1 : a.eval (.tmp 1) = .pointer (some ⟨MB,0,none⟩):=ho 1 (by kernel_rfl)
   rw [eval_tmp] at e1
   clear m0 m1 m2 m3 m4 m5
   clear hd ho
   replace hK:=Lib.hid hK
   go_simp
   exact hK.out _ _ rfl (BxX.refl _)
  ·intro a w hE hd ho
   refine .inl ⟨rfl,?_⟩
   intro K hK
   have hF : Ext w0 w:=Ext.trans ((Ext.refl _).drew) (BxX.to_ext hE (Nat.le_refl _))
   have e12 : a.eval (.tmp 12) = .pointer (some ⟨MB,4,none⟩):=hd 7 (by kernel_rfl)
   rw [eval_tmp] at e12
   have m4w:=Ext.cell hF m4
   clear m0 m1 m2 m3 m4 m5
   clear hd ho
   replace hK:=Lib.hid hK
   go_simp
   exact hK.out _ _ rfl (BxX.refl _)
  ·intro a w hE hd ho
   refine .inl ⟨rfl,?_⟩
   intro K hK
   have hF : Ext w0 w:=Ext.trans ((Ext.refl _).drew) (BxX.to_ext hE (Nat.le_refl _))
   have e1 : a.eval (.tmp 1) = .pointer (some ⟨MB,0,none⟩):=ho 1 (by kernel_rfl)
   rw [eval_tmp] at e1
   clear m0 m1 m2 m3 m4 m5
   clear hd ho
   replace hK:=Lib.hid hK
   go_simp
   exact hK.out _ _ rfl (BxX.refl _)
  ·intro a w hE hd ho
   refine .inl ⟨rfl,?_⟩
   intro K hK
   have hF : Ext w0 w:=Ext.trans ((Ext.refl _).drew) (BxX.to_ext hE (Nat.le_refl _))
   have e14 : a.eval (.tmp 14) = .pointer (some ⟨MB,5,none⟩):=hd 9 (by kernel_rfl)
   rw [eval_tmp] at e14
   have m5w:=Ext.cell hF m5
   clear m0 m1 m2 m3 m4 m5
   clear hd ho
   replace hK:=Lib.hid hK
   go_simp
   exact hK.out _ _ rfl (BxX.refl _)
  ·intro a w hE hd ho
   refine .inl ⟨rfl,?_⟩
   intro K hK
   have hF : Ext w0 w:=Ext.trans ((Ext.refl _).drew) (BxX.to_ext hE (Nat.le_refl _))
   obtain ⟨xa7,xc7,xv7,e7,g7⟩ : ∃ a' c' vs,a.eval (.tmp 7) = .agg #[.slice a' A.length c',.int .i64 nx]∧OM w w0.heap.size (.slice a' A.length c') vs A:=hd 2 (by kernel_rfl)
   rw [eval_tmp] at e7
   obtain ⟨xa11,xc11,e11,g11⟩ : ∃ a' c',a.eval (.tmp 11) = .slice a' R.length c'∧Own w w0.heap.size 3 1 (.slice a' R.length c') R.length (R.flatMap irow):=hd 6 (by kernel_rfl)
   rw [eval_tmp] at e11
   have e13 : a.eval (.tmp 13) = .int .i64 tg:=hd 8 (by kernel_rfl)
   rw [eval_tmp] at e13
   have e15 : a.eval (.tmp 15) = .int .i64 cl:=hd 10 (by kernel_rfl)
   rw [eval_tmp] at e15
   clear m0 m1 m2 m3 m4 m5
   clear hd ho
   replace hK:=Lib.hid hK
   go_simp
   exact hK.out _ _ ⟨_,_,_,_,_,rfl,g7,g11⟩ (BxX.refl _)
  ·intro a w hE hd ho
   refine .inl ⟨rfl,?_⟩
   intro K hK
   have hF : Ext w0 w:=Ext.trans ((Ext.refl _).drew) (BxX.to_ext hE (Nat.le_refl _))
   clear m0 m1 m2 m3 m4 m5
   clear hd ho
   replace hK:=Lib.hid hK
   go_simp
   exact hK.out _ _ ⟨_,rfl,BxX.size hE,#[.slice none 0 0,.int .i64 0,.slice none 0 0,.slice none 0 0,.int .i64 0,.int .i64 0],rfl,Box.new _ _ _⟩ (BxX.of_ext ((Ext.refl _).alloc _))
  ·intro a w hE hd ho
   refine .inl ⟨rfl,?_⟩
   intro K hK
   have hF : Ext w0 w:=Ext.trans ((Ext.refl _).drew) (BxX.to_ext hE (Nat.le_refl _))
   obtain ⟨bq,eq,hNb,vs0,hv0,hbx⟩ : ∃ b,a.eval (.tmp 3) = .pointer (some ⟨b,0,none⟩)∧w0.drew.heap.size≤b∧BoxT 28 6 w b:=hd 12 (by kernel_rfl)
   rw [eval_tmp] at eq
   have hBT : BoxT 28 6 w bq:=⟨vs0,hv0,hbx⟩
   obtain ⟨u0,u1,u2,u3,u4,u5,rfl⟩ : ∃ u0 u1 u2 u3 u4 u5,vs0=#[u0,u1,u2,u3,u4,u5]:=by match vs0,hv0 with | ⟨[u0,u1,u2,u3,u4,u5]⟩,_=>exact ⟨u0,u1,u2,u3,u4,u5,rfl⟩
   have bc0 : World.cell? w ⟨bq,0,none⟩=some u0:=hbx.cell 0
   have bf0:=hbx.frozen 0
   have bc1 : World.cell? w ⟨bq,1,none⟩=some u1:=hbx.cell 1
   have bf1:=hbx.frozen 1
   have bc2 : World.cell? w ⟨bq,2,none⟩=some u2:=hbx.cell 2
   have bf2:=hbx.frozen 2
   have bc3 : World.cell? w ⟨bq,3,none⟩=some u3:=hbx.cell 3
   have bf3:=hbx.frozen 3
   have bc4 : World.cell? w ⟨bq,4,none⟩=some u4:=hbx.cell 4
   have bf4:=hbx.frozen 4
   have bc5 : World.cell? w ⟨bq,5,none⟩=some u5:=hbx.cell 5
   have bf5:=hbx.frozen 5
   have hbl:=hbx.lt
   replace hBT:=Lib.hid hBT
   obtain ⟨xa16,xc16,xv16,ya16,yc16,e16,g16,k16⟩ : ∃ a' c' vs a2 c2,a.eval (.tmp 16) = .agg #[.slice a' A.length c',.int .i64 nx,.slice none 0 0,.slice a2 R.length c2,.int .i64 tg,.int .i64 cl]∧OM w w0.heap.size (.slice a' A.length c') vs A∧Own w w0.heap.size 3 1 (.slice a2 R.length c2) R.length (R.flatMap irow):=hd 11 (by kernel_rfl)
   rw [eval_tmp] at e16
   clear m0 m1 m2 m3 m4 m5
   have eq0:=Lib.hid ((eval_tmp a 3).trans eq)
   clear hd ho
   replace hK:=Lib.hid hK
   go_simp
   have hEb : ExtBut (· = bq) w (World.setCell (World.setCell (World.setCell (World.setCell (World.setCell (World.setCell w ⟨bq,0,none⟩ (.slice xa16 A.length xc16)) ⟨bq,1,none⟩ (.int .i64 nx)) ⟨bq,2,none⟩ (.slice none 0 0)) ⟨bq,3,none⟩ (.slice ya16 R.length yc16)) ⟨bq,4,none⟩ (.int .i64 tg)) ⟨bq,5,none⟩ (.int .i64 cl)):=by (repeat' with_reducible first | exact ExtBut.refl _ _ | refine ExtBut.dr ?_ | refine ExtBut.sc ?_ ?_ | fail) <;> dsimp only <;> omega
   have hBx : Box (World.setCell (World.setCell (World.setCell (World.setCell (World.setCell (World.setCell w ⟨bq,0,none⟩ (.slice xa16 A.length xc16)) ⟨bq,1,none⟩ (.int .i64 nx)) ⟨bq,2,none⟩ (.slice none 0 0)) ⟨bq,3,none⟩ (.slice ya16 R.length yc16)) ⟨bq,4,none⟩ (.int .i64 tg)) ⟨bq,5,none⟩ (.int .i64 cl)) bq 28 #[.slice xa16 A.length xc16,.int .i64 nx,.slice none 0 0,.slice ya16 R.length yc16,.int .i64 tg,.int .i64 cl]:=(Box.set (Box.set (Box.set (Box.set (Box.set (Box.set hbx 0 (.slice xa16 A.length xc16)) 1 (.int .i64 nx)) 2 (.slice none 0 0)) 3 (.slice ya16 R.length yc16)) 4 (.int .i64 tg)) 5 (.int .i64 cl))
   have hB1 : BxR w0.drew.heap.size 28 6 w (World.setCell (World.setCell (World.setCell (World.setCell (World.setCell (World.setCell w ⟨bq,0,none⟩ (.slice xa16 A.length xc16)) ⟨bq,1,none⟩ (.int .i64 nx)) ⟨bq,2,none⟩ (.slice none 0 0)) ⟨bq,3,none⟩ (.slice ya16 R.length yc16)) ⟨bq,4,none⟩ (.int .i64 tg)) ⟨bq,5,none⟩ (.int .i64 cl)):=BxR.trans (BxR.trans (BxR.trans (BxR.trans (BxR.trans (BxR.set (hBT.out) hNb 0 (.slice xa16 A.length xc16)) (BxR.set (BxR.boxT (BxR.set (hBT.out) hNb 0 (.slice xa16 A.length xc16)) hBT.out) hNb 1 (.int .i64 nx))) (BxR.set (BxR.boxT (BxR.trans (BxR.set (hBT.out) hNb 0 (.slice xa16 A.length xc16)) (BxR.set (BxR.boxT (BxR.set (hBT.out) hNb 0 (.slice xa16 A.length xc16)) hBT.out) hNb 1 (.int .i64 nx))) hBT.out) hNb 2 (.slice none 0 0))) (BxR.set (BxR.boxT (BxR.trans (BxR.trans (BxR.set (hBT.out) hNb 0 (.slice xa16 A.length xc16)) (BxR.set (BxR.boxT (BxR.set (hBT.out) hNb 0 (.slice xa16 A.length xc16)) hBT.out) hNb 1 (.int .i64 nx))) (BxR.set (BxR.boxT (BxR.trans (BxR.set (hBT.out) hNb 0 (.slice xa16 A.length xc16)) (BxR.set (BxR.boxT (BxR.set (hBT.out) hNb 0 (.slice xa16 A.length xc16)) hBT.out) hNb 1 (.int .i64 nx))) hBT.out) hNb 2 (.slice none 0 0))) hBT.out) hNb 3 (.slice ya16 R.length yc16))) (BxR.set (BxR.boxT (BxR.trans (BxR.trans (BxR.trans (BxR.set (hBT.out) hNb 0 (.slice xa16 A.length xc16)) (BxR.set (BxR.boxT (BxR.set (hBT.out) hNb 0 (.slice xa16 A.length xc16)) hBT.out) hNb 1 (.int .i64 nx))) (BxR.set (BxR.boxT (BxR.trans (BxR.set (hBT.out) hNb 0 (.slice xa16 A.length xc16)) (BxR.set (BxR.boxT (BxR.set (hBT.out) hNb 0 (.slice xa16 A.length xc16)) hBT.out) hNb 1 (.int .i64 nx))) hBT.out) hNb 2 (.slice none 0 0))) (BxR.set (BxR.boxT (BxR.trans (BxR.trans (BxR.set (hBT.out) hNb 0 (.slice xa16 A.length xc16)) (BxR.set (BxR.boxT (BxR.set (hBT.out) hNb 0 (.slice xa16 A.length xc16)) hBT.out) hNb 1 (.int .i64 nx))) (BxR.set (BxR.boxT (BxR.trans (BxR.set (hBT.out) hNb 0 (.slice xa16 A.length xc16)) (BxR.set (BxR.boxT (BxR.set (hBT.out) hNb 0 (.slice xa16 A.length xc16)) hBT.out) hNb 1 (.int .i64 nx))) hBT.out) hNb 2 (.slice none 0 0))) hBT.out) hNb 3 (.slice ya16 R.length yc16))) hBT.out) hNb 4 (.int .i64 tg))) (BxR.set (BxR.boxT (BxR.trans (BxR.trans (BxR.trans (BxR.trans (BxR.set (hBT.out) hNb 0 (.slice xa16 A.length xc16)) (BxR.set (BxR.boxT (BxR.set (hBT.out) hNb 0 (.slice xa16 A.length xc16)) hBT.out) hNb 1 (.int .i64 nx))) (BxR.set (BxR.boxT (BxR.trans (BxR.set (hBT.out) hNb 0 (.slice xa16 A.length xc16)) (BxR.set (BxR.boxT (BxR.set (hBT.out) hNb 0 (.slice xa16 A.length xc16)) hBT.out) hNb 1 (.int .i64 nx))) hBT.out) hNb 2 (.slice none 0 0))) (BxR.set (BxR.boxT (BxR.trans (BxR.trans (BxR.set (hBT.out) hNb 0 (.slice xa16 A.length xc16)) (BxR.set (BxR.boxT (BxR.set (hBT.out) hNb 0 (.slice xa16 A.length xc16)) hBT.out) hNb 1 (.int .i64 nx))) (BxR.set (BxR.boxT (BxR.trans (BxR.set (hBT.out) hNb 0 (.slice xa16 A.length xc16)) (BxR.set (BxR.boxT (BxR.set (hBT.out) hNb 0 (.slice xa16 A.length xc16)) hBT.out) hNb 1 (.int .i64 nx))) hBT.out) hNb 2 (.slice none 0 0))) hBT.out) hNb 3 (.slice ya16 R.length yc16))) (BxR.set (BxR.boxT (BxR.trans (BxR.trans (BxR.trans (BxR.set (hBT.out) hNb 0 (.slice xa16 A.length xc16)) (BxR.set (BxR.boxT (BxR.set (hBT.out) hNb 0 (.slice xa16 A.length xc16)) hBT.out) hNb 1 (.int .i64 nx))) (BxR.set (BxR.boxT (BxR.trans (BxR.set (hBT.out) hNb 0 (.slice xa16 A.length xc16)) (BxR.set (BxR.boxT (BxR.set (hBT.out) hNb 0 (.slice xa16 A.length xc16)) hBT.out) hNb 1 (.int .i64 nx))) hBT.out) hNb 2 (.slice none 0 0))) (BxR.set (BxR.boxT (BxR.trans (BxR.trans (BxR.set (hBT.out) hNb 0 (.slice xa16 A.length xc16)) (BxR.set (BxR.boxT (BxR.set (hBT.out) hNb 0 (.slice xa16 A.length xc16)) hBT.out) hNb 1 (.int .i64 nx))) (BxR.set (BxR.boxT (BxR.trans (BxR.set (hBT.out) hNb 0 (.slice xa16 A.length xc16)) (BxR.set (BxR.boxT (BxR.set (hBT.out) hNb 0 (.slice xa16 A.length xc16)) hBT.out) hNb 1 (.int .i64 nx))) hBT.out) hNb 2 (.slice none 0 0))) hBT.out) hNb 3 (.slice ya16 R.length yc16))) hBT.out) hNb 4 (.int .i64 tg))) hBT.out) hNb 5 (.int .i64 cl))
   have hOM:=OM.bxr g16 (by decide) (by decide) hB1
   have hOR:=Own.bxr (n':=0) k16 (by decide) hB1
   have hRR : (BxX w0.drew.heap.size 28 6 (XTw35 w0 A nx R tg cl)) w (World.setCell (World.setCell (World.setCell (World.setCell (World.setCell (World.setCell w ⟨bq,0,none⟩ (.slice xa16 A.length xc16)) ⟨bq,1,none⟩ (.int .i64 nx)) ⟨bq,2,none⟩ (.slice none 0 0)) ⟨bq,3,none⟩ (.slice ya16 R.length yc16)) ⟨bq,4,none⟩ (.int .i64 tg)) ⟨bq,5,none⟩ (.int .i64 cl)):=BxX.but hEb hBT.out hNb rfl hBx ⟨_,_,_,_,_,rfl,hOM,hOR⟩
   exact hK.out undef (World.setCell (World.setCell (World.setCell (World.setCell (World.setCell (World.setCell w ⟨bq,0,none⟩ (.slice xa16 A.length xc16)) ⟨bq,1,none⟩ (.int .i64 nx)) ⟨bq,2,none⟩ (.slice none 0 0)) ⟨bq,3,none⟩ (.slice ya16 R.length yc16)) ⟨bq,4,none⟩ (.int .i64 tg)) ⟨bq,5,none⟩ (.int .i64 cl)) ⟨bq,_,_,_,_,_,eq0.out,hNb,hBx,hOM,hOR⟩ hRR
 ·intro vals Ac wq hAc hE hv hsv
  have hF : Ext w0 wq:=Ext.trans ((Ext.refl _).drew) (BxX.to_ext hE (Nat.le_refl _))
  obtain ⟨BO,xa,xc,vsA,ya,yc,eb,hNb,hBx,hOM,hOR⟩ : ∃ b a c vs a2 c2,vals 13 = .pointer (some ⟨b,0,none⟩)∧w0.drew.heap.size≤b∧Box wq b 28 #[.slice a A.length c,.int .i64 nx,.slice none 0 0,.slice a2 R.length c2,.int .i64 tg,.int .i64 cl]∧OM wq w0.heap.size (.slice a A.length c) vs A∧Own wq w0.heap.size 3 1 (.slice a2 R.length c2) R.length (R.flatMap irow):=hv 13 (by decide)
  have e3 : vals 12 = .pointer (some ⟨BO,0,none⟩):=((hsv 12).trans (hsv 13).symm).trans eb
  clear hv hsv hE eb
  subst hAc
  simp only [putAll]
  go_simp
  try rw [e3]
  clear e3 m0 m1 m2 m3 m4 m5
  have bM:=bM.ext hF;have bR:=bR.ext hF;have hG:=hE0.trans hF
  have hNb : w0.heap.size≤BO:=hNb
  have hMB2:=hMB.out
  subst hMB2
  have hlA : (∀ g,(Value.slice xa A.length xc).ownBlock=some g→g < wq.heap.size) ∧ ∀ s ∈ vsA,∀ g,s.ownBlock=some g→g < wq.heap.size:=⟨fun g e=>(hOM.outer.lt e).2,fun s hs g e=>(OM.inner_lt hOM s hs g e).2⟩
  have hlR : ∀ g,(Value.slice ya R.length yc).ownBlock=some g→g < wq.heap.size:=fun g e=>(hOR.lt e).2
  have hty : tyB wq BO=some 28:=by have:=hBx;unfold tyB;rw [show wq.heap[BO]? = _ from this]
  have hnA : ∀ g,(Value.slice xa A.length xc).ownBlock=some g→g≠BO:=fun g e h=>by subst h;have:=hOM.outer.ty e;rw [hty] at this;simp at this
  have hnA2 : ∀ s ∈ vsA,∀ g,s.ownBlock=some g→g≠BO:=fun s hs g e h=>by subst h;have:=OM.ty hOM hs e;rw [hty] at this;simp at this
  have hnR : ∀ g,(Value.slice ya R.length yc).ownBlock=some g→g≠BO:=fun g e h=>by subst h;have:=hOR.ty e;rw [hty] at this;simp at this
  have hBl:=hBx.lt
  have hsq:=hF.size
  have hH:=Lib.hid (And.intro hOM (And.intro hOR (And.intro hlA (And.intro hlR (And.intro hnA (And.intro hnA2 (And.intro hnR (And.intro hG (And.intro bM (And.intro bR hBx))))))))))
  replace hNb:=Lib.hid hNb;replace hBl:=Lib.hid hBl;replace hsq:=Lib.hid hsq
  clear hOM hOR hlA hlR hty hnA hnA2 hnR hF hG bM bR hE0
  have hcO:=hBx.cell 1
  clear hBx hcO
  go_wp2
  go_loopw [4] (fun iv wr => ∃ (k : Nat) (v : Value) (vs : List Value),k≤K.length∧iv = .int .i64 k∧Box wr BO 28 #[.slice xa A.length xc,.int .i64 nx,v,.slice ya R.length yc,.int .i64 tg,.int .i64 cl]∧OwnK wr wq.heap.size v vs (K.take k)∧ExtBut (· = BO) wq wr) (fun iv _=>K.length - (intOf iv).toNat)
  case atStart=>exact ⟨0,_,[],Nat.zero_le _,rfl,hH.out.2.2.2.2.2.2.2.2.2.2,OwnK.nil _ _,ExtBut.refl _ _⟩
  case round =>
   obtain ⟨k,v,vs,hk,rfl,bO,hT,hX⟩:=hrel
   have h0:=hs0.out
   have hNb0:=hNb.out
   have bM:=hH.out.2.2.2.2.2.2.2.2.1.but hX (by omega)
   have bR:=hH.out.2.2.2.2.2.2.2.2.2.1.but hX (by omega)
   have hF : Ext w wr:=ExtBut.ext hH.out.2.2.2.2.2.2.2.1 hX (fun x h=>by omega)
   have hlk : (K.take k).length=k:=by rw [List.length_take];omega
   have hOv:=hT.outer
   rw [hlk] at hOv
   obtain ⟨av,cv,rfl,hcv1,hcv2,-⟩:=hOv.sl.slice_form
   unfold maxLen at hcv2
   have m0 : wr.cell? ⟨w.heap.size,2,none⟩=some (.slice ka K.length kc):=bM.cell 2
   have o0 : wr.cell? ⟨BO,2,none⟩=some (.slice av k cv):=bO.cell 2
   have hBl:=bO.lt
   by_cases hlt : k < K.length
   ·obtain ⟨x,hx⟩ : ∃ x,K[k]? = some x:=⟨K[k],by simp [hlt]⟩
    obtain ⟨b,off,sv,rfl,hbb,d0,d1,hcl⟩:=(hKl.out.ext hF).cell hx
    obtain ⟨ca,ccp,rfl,hclc,hccm,-⟩:=hcl.form
    obtain ⟨xn,xcs⟩:=x
    dsimp only at d0 d1 hcl hccm hclc ⊢
    have hxs : xcs.length≤1000000 ∧ ∀ s ∈ xcs,s.length≤1000000:=hsK.out.2 _ (List.mem_of_getElem? hx)
    have hsq0:=hsq.out
    have hsqr:=hX.size
    have hvB:=fun g e=>(hOv.lt (g:=g) e).1
    have hA:=Lib.hid (And.intro hx (And.intro hT (And.intro hX (And.intro hOv (And.intro bO (And.intro hlk hvB))))))
    have hk6 : k≤1000000:=by have:=hsK.out.1;omega
    have hBlq:=hBl
    replace hsqr:=Lib.hid hsqr
    clear hx hT hX hOv bO hlk bM bR hbb h0 hNb0 hvB hsq0
    go_wp2
    go_region_law (first | (rw [if_pos (by rfl)];refine wp_append_any (.tmp 25) (.tmp 32) 25 25 rfl rfl rfl (B:=wq.heap.size) (e:=33) (n:=k) (m:=1) (xs:=trows krow vs (K.take k)) (ys:=krow (.slice an xcs.length cn) ⟨xn,xcs⟩) Tryz.underlying25 Tryz.underlying25 hki.out hkz.out hki3.out hkz3.out ?_ ?_ ?_ ?_ ?_ ?_ ?_;(first | exact hA.out.2.2.2.1.ext hB.out.1 | exact hA.out.2.2.2.1.ext hB.out.1.drew);(first | exact (Own.lit' (B:=0) (e:=33) (k:=2) w4 #[.int .i64 xn,.slice an xcs.length cn] 1 (Nat.zero_le _) (by simp [maxLen]) rfl).sl | exact (Own.lit' (B:=0) (e:=33) (k:=2) w4 #[.int .i64 xn,.slice an xcs.length cn] 1 (Nat.zero_le _) (by simp [maxLen]) rfl).sl.ext (Ext.refl _).drew);(simp [krow,Value.oneCell']);(simp [maxLen];omega);(rw [hkby.out];omega);(exact Nat.le_trans hA.out.2.2.1.size hB.out.1.size);intro v' w6 hOv hKv hbv _;(obtain ⟨av',cv',rfl,-⟩:=hOv.sl.slice_form);(have bO6 : Box w6 BO 28 #[.slice xa A.length xc,.int .i64 nx,.slice av k cv,.slice ya R.length yc,.int .i64 tg,.int .i64 cl]:=(hA.out.2.2.2.2.1.ext hB.out.1).but (ExtBut.of_keeps hKv) (fun h=>by have h1:=hA.out.2.2.2.2.2.2 _ h;have h2:=hH.out.2.2.2.2.2.2.2.2.2.2.lt;omega));(have o6 : w6.cell? ⟨BO,2,none⟩=some (.slice av k cv):=bO6.cell 2);(have of6:=bO6.frozen 2);(have hC:=Lib.hid (And.intro hOv (And.intro hKv (And.intro hbv bO6))));clear hOv hKv hbv bO6) | (go_simp;go_at_call 27;refine (ref33_Twin (num:=xn) (hcl.ext ?_) hxs).mono ?_;(first | exact (Ext.refl _).drew | exact Ext.refl _);rintro e w4 ⟨sn,vn,rfl,hOn,hE4⟩;(have hE4' : Ext wr w4:=(by first | exact hE4 | exact ((Ext.refl wr).drew).trans hE4));(have hOn2 : OwnS w4 wr.heap.size sn vn xcs:=hOn);(obtain ⟨an,cn,rfl,hcn,hcn2,-⟩:=(Own.sl hOn.outer).slice_form);(have o4:=hE4'.cell o0);(have hBl4 : BO < w4.heap.size:=Nat.lt_of_lt_of_le hBl hE4'.size);(have hB:=Lib.hid (And.intro (hE4'.alloc (.cells #[.int .i64 xn,.slice an xcs.length cn] 33)) (And.intro hOn2 hE4')));clear hOn hOn2 hE4 hE4'))
    all_goals
     have hOv:=hC.out.1
     have hKv : Keeps (w4.alloc (.cells #[.int .i64 xn,.slice an xcs.length cn] 33)) w6 wq.heap.size (.slice av k cv):=hC.out.2.1
     have hlk:=hA.out.2.2.2.2.2.1
     have hRw : Fq (fun b=>wq.heap.size≤b∧(Value.slice av k cv).ownBlock≠some b) (w4.alloc (.cells #[.int .i64 xn,.slice an xcs.length cn] 33)) (fun w=>Sts w (.slice an xcs.length cn) xcs):=((OwnS.fs hB.out.2.1).mono (fun b h1 _=>⟨by have:=hsqr.out;omega,fun e=>by have:=(hA.out.2.2.2.1.lt e).2;omega⟩)).ext ((Ext.refl _).alloc _)
     have hP : OwnK w6 wq.heap.size (.slice av' (k+1) cv') (vs ++ [.slice an xcs.length cn]) (K.take k ++ [⟨xn,xcs⟩]):=OwnK.push (hA.out.2.1.ext hB.out.1) hRw (by rw [hlk];exact hOv) hKv (by rcases hC.out.2.2.1 with h | ⟨g,h1,h2⟩;exact .inl h;exact .inr ⟨g,h1,h2⟩)
     have htk : K.take k ++ [⟨xn,xcs⟩]=K.take (k+1):=by rw [List.take_add_one,hA.out.1];rfl
     rw [htk] at hP
     have hvB:=hA.out.2.2.2.2.2.2
     have hX6:=((hA.out.2.2.1.trans (ExtBut.of_ext hB.out.1)).trans' (ExtBut.of_keeps hKv) (fun x hx h=>by have:=hvB _ h;omega)).trans (ExtBut.setCell w6 ⟨BO,2,none⟩ (.slice av' (k+1) cv'))
     have hP7:=OwnK.but hP (ExtBut.setCell w6 ⟨BO,2,none⟩ (.slice av' (k+1) cv')) (fun g e h=>by have h2:=hH.out.2.2.2.2.2.2.2.2.2.2.lt;have h' : g=BO:=h;omega)
     have bO7:=hC.out.2.2.2.set 2 (.slice av' (k+1) cv')
     have hR:=Lib.hid (And.intro bO7 (And.intro hP7 hX6))
     clear hvB hX6 hP7 bO7 hP hOv hKv hlk htk hC o6 of6 hRw
     go_wp2
     go_roundw
     case rel=>exact ⟨k+1,_,_,by omega,by go_num,hR.out.1,hR.out.2.1,hR.out.2.2⟩
     case measure=>simp [intOf];omega
   ·have hkl : k=K.length:=by omega
    subst hkl
    rw [List.take_length] at hT
    have q0 : wr.cell? ⟨BO,0,none⟩=some (.slice xa A.length xc):=bO.cell 0
    have q1 : wr.cell? ⟨BO,1,none⟩=some (.int .i64 nx):=bO.cell 1
    have q2 : wr.cell? ⟨BO,2,none⟩=some (.slice av K.length cv):=bO.cell 2
    have q3 : wr.cell? ⟨BO,3,none⟩=some (.slice ya R.length yc):=bO.cell 3
    have q4 : wr.cell? ⟨BO,4,none⟩=some (.int .i64 tg):=bO.cell 4
    have q5 : wr.cell? ⟨BO,5,none⟩=some (.int .i64 cl):=bO.cell 5
    have r0 : wr.cell? ⟨w.heap.size+1,0,none⟩=some (.slice none 0 0):=bR.cell 0
    have rf0:=bR.frozen 0
    have r1 : wr.cell? ⟨w.heap.size+1,1,none⟩=some (.int .i64 0):=bR.cell 1
    have rf1:=bR.frozen 1
    have r2 : wr.cell? ⟨w.heap.size+1,2,none⟩=some (.slice none 0 0):=bR.cell 2
    have rf2:=bR.frozen 2
    have r3 : wr.cell? ⟨w.heap.size+1,3,none⟩=some (.slice none 0 0):=bR.cell 3
    have rf3:=bR.frozen 3
    have r4 : wr.cell? ⟨w.heap.size+1,4,none⟩=some (.int .i64 0):=bR.cell 4
    have rf4:=bR.frozen 4
    have r5 : wr.cell? ⟨w.heap.size+1,5,none⟩=some (.int .i64 0):=bR.cell 5
    have rf5:=bR.frozen 5
    have hT':=Lib.hid hT
    have hXh:=Lib.hid hX
    clear hT hlk hOv bM hX o0
    go_wp2
    have hY : ExtBut (fun b=>b=w.heap.size+1) wr _:=(ExtBut.trans (ExtBut.trans (ExtBut.trans (ExtBut.trans (ExtBut.trans ((ExtBut.setCell wr ⟨w.heap.size+1,0,none⟩ (.slice xa A.length xc)).mono (S':=fun b=>b=w.heap.size+1) (fun _ _ h=>h)) ((ExtBut.setCell (World.setCell wr ⟨w.heap.size+1,0,none⟩ (.slice xa A.length xc)) ⟨w.heap.size+1,1,none⟩ (.int .i64 nx)).mono (S':=fun b=>b=w.heap.size+1) (fun _ _ h=>h))) ((ExtBut.setCell (World.setCell (World.setCell wr ⟨w.heap.size+1,0,none⟩ (.slice xa A.length xc)) ⟨w.heap.size+1,1,none⟩ (.int .i64 nx)) ⟨w.heap.size+1,2,none⟩ (.slice av K.length cv)).mono (S':=fun b=>b=w.heap.size+1) (fun _ _ h=>h))) ((ExtBut.setCell (World.setCell (World.setCell (World.setCell wr ⟨w.heap.size+1,0,none⟩ (.slice xa A.length xc)) ⟨w.heap.size+1,1,none⟩ (.int .i64 nx)) ⟨w.heap.size+1,2,none⟩ (.slice av K.length cv)) ⟨w.heap.size+1,3,none⟩ (.slice ya R.length yc)).mono (S':=fun b=>b=w.heap.size+1) (fun _ _ h=>h))) ((ExtBut.setCell (World.setCell (World.setCell (World.setCell (World.setCell wr ⟨w.heap.size+1,0,none⟩ (.slice xa A.length xc)) ⟨w.heap.size+1,1,none⟩ (.int .i64 nx)) ⟨w.heap.size+1,2,none⟩ (.slice av K.length cv)) ⟨w.heap.size+1,3,none⟩ (.slice ya R.length yc)) ⟨w.heap.size+1,4,none⟩ (.int .i64 tg)).mono (S':=fun b=>b=w.heap.size+1) (fun _ _ h=>h))) ((ExtBut.setCell (World.setCell (World.setCell (World.setCell (World.setCell (World.setCell wr ⟨w.heap.size+1,0,none⟩ (.slice xa A.length xc)) ⟨w.heap.size+1,1,none⟩ (.int .i64 nx)) ⟨w.heap.size+1,2,none⟩ (.slice av K.length cv)) ⟨w.heap.size+1,3,none⟩ (.slice ya R.length yc)) ⟨w.heap.size+1,4,none⟩ (.int .i64 tg)) ⟨w.heap.size+1,5,none⟩ (.int .i64 cl)).mono (S':=fun b=>b=w.heap.size+1) (fun _ _ h=>h)))
    have hT:=hT'.out
    have hX:=hXh.out
    refine bodyPost_ret (v := .agg #[.slice xa A.length xc,.int .i64 nx,.slice av K.length cv,.slice ya R.length yc,.int .i64 tg,.int .i64 cl]) (by simp [results,Tryz.f5,go_sem,r0,r1,r2,r3,r4,r5]) rfl ?_
    obtain ⟨hOM,hOR,hlA,hlR,hnA,hnA2,hnR,-⟩:=hH.out
    have hsq0:=hsq.out
    have hsqr:=hX.size
    have hXY : ExtBut (fun b=>b=BO∨b=w.heap.size+1) wq _:=(hX.mono (fun _ _ h => .inl h)).trans (hY.mono (fun _ _ h => .inr h))
    have hOM2:=OM.but hOM hXY (fun g e h=>by have:=(hOM.outer.lt e).1;rcases h with h | h;exact hnA g e h;omega) (fun s hs g e h=>by have:=(OM.inner_lt hOM s hs g e).1;rcases h with h | h;exact hnA2 s hs g e h;omega)
    have hOR2:=ExtBut.own hOR hXY (fun g e h=>by have:=(hOR.lt e).1;rcases h with h | h;exact hnR g e h;omega)
    exact ⟨wq.heap.size,_,_,_,vsA,vs,rfl,⟨OM.mono hOM2 (by omega),hOR2.mono (by omega),hT.but hY (fun b hb h=>by omega),⟨by omega,by have:=hXY.size;omega⟩,hlA,hlR⟩,ExtBut.ext hF hY (fun x h=>by omega)⟩
end Go.Proofs.YtepdbdckjmkbhaaGreatDoor

/- The reference's copy of a monitor: the call owns its stacks down to the items. (printed by gen/twin2.py) -/
namespace Go.Proofs.YtepdbdckjmkbhaaGreatDoor
set_option maxRecDepth 100000
open Go.RowKit
structure OwnK2 (w : World) (B : Nat) (v : Value) (vs : List Value) (l : List Stk) : Prop where
 base : OwnK w B v vs l
 ins : ∀ (i : Nat) (s : Value) (x : Stk),vs[i]? = some s→l[i]? = some x → ∃ us,OwnS w B s us x.cells
theorem OwnK2.nil (w : World) (B : Nat) : OwnK2 w B (.slice none 0 0) [] []:=⟨OwnK.nil w B,fun i _ _ h=>by simp at h⟩
theorem OwnK2.but {S : Nat→Prop} {w w' : World} {B : Nat} {v : Value} {vs : List Value} {l : List Stk} (h : OwnK2 w B v vs l) (hE : ExtBut S w w') (hS : ∀ b,B≤b → ¬ S b) : OwnK2 w' B v vs l :=
 ⟨h.base.but hE hS,fun i s x hs hx=>by
  obtain ⟨us,hu⟩:=h.ins i s x hs hx
  exact ⟨us,hu.but hE hS⟩⟩
theorem OwnK2.ext {w w' : World} {B : Nat} {v : Value} {vs : List Value} {l : List Stk} (h : OwnK2 w B v vs l) (hE : Ext w w') : OwnK2 w' B v vs l:=h.but (ExtBut.of_ext (S:=fun _=>False) hE) (fun _ _ h=>h)
theorem OwnS.keepK {w w' : World} {B B1 n : Nat} {v s : Value} {xs us : List Value} {l : List (List Item)} (h : OwnS w B s us l) (hv : Own w B1 33 2 v n xs) (hK : ExtBut (fun b=>v.ownBlock=some b) w w') : OwnS w' B s us l :=
 OTb.but OwnI.keep h hK (fun g hg e=>Own.apart hv h.outer (by decide) e hg) (fun u hu g hg e=>by
  obtain ⟨i,hi⟩:=List.mem_iff_getElem?.1 hu
  obtain ⟨a,_,hr⟩:=h.inner.get' hi
  exact Own.apart hv (show Own w B 35 3 u _ _ from hr) (by decide) e hg)
theorem OwnK2.push {wx w' : World} {B : Nat} {v v' s : Value} {vs : List Value} {l : List Stk} {x : Stk} (h : OwnK2 wx B v vs l) (hR : Fq (fun b=>B≤b∧v.ownBlock≠some b) wx (fun w=>Sts w s x.cells)) (hI : ∃ us,OwnS wx B s us x.cells)
  (hO : Own w' B 33 2 v' (l.length+1) (trows krow vs l ++ krow s x)) (hK : Keeps wx w' B v) (hb : v'.ownBlock=v.ownBlock ∨ ∃ g,v'.ownBlock=some g∧wx.heap.size≤g) : OwnK2 w' B v' (vs ++ [s]) (l ++ [x]):=by
 refine ⟨h.base.push hR hO hK hb,fun i u y hu hy => ?_⟩
 have hl:=h.base.len
 by_cases hi : i < vs.length
 ·rw [List.getElem?_append_left hi] at hu
  rw [List.getElem?_append_left (by rw [← hl];exact hi)] at hy
  obtain ⟨us,h2⟩:=h.ins i u y hu hy
  exact ⟨us,h2.keepK h.base.outer (ExtBut.of_keeps hK)⟩
 ·have hlt:=(List.getElem?_eq_some_iff.1 hu).1
  simp at hlt
  obtain rfl : i=vs.length:=by omega
  simp at hu
  rw [hl] at hy
  simp at hy
  subst hu hy
  obtain ⟨us,h2⟩:=hI
  exact ⟨us,h2.keepK h.base.outer (ExtBut.of_keeps hK)⟩
def RetTw2 (w : World) (m : Mon) (en : Ending) (w' : World) : Prop := ∃ N sa ss sr vsA vs,en = .returned (.agg #[sa,.int .i64 m.mem.next,ss,sr,.int .i64 m.tag,.int .i64 m.call])∧Tw w' w.heap.size N sa ss sr vsA vs m∧(∀ (i : Nat) (s : Value) (x : Stk),vs[i]? = some s→m.stks[i]? = some x → ∃ us,OwnS w' N s us x.cells)∧Ext w w'
set_option maxRecDepth 100000 in
set_option maxHeartbeats 6400000 in
theorem ref35_Twin2 {m : Mon} {sa ss sr : Value} {w : World} (hA : Als w sa m.mem.al) (hK : Kts w ss m.stks) (hR : Nts w sr m.run) (hsA : small m.mem.al)
  (hsK : m.stks.length≤1000000 ∧ ∀ x ∈ m.stks,x.cells.length≤1000000 ∧ ∀ s ∈ x.cells,s.length≤1000000) (hsR : m.run.length≤1000000) :
  Calls Tryz.prog 5 #[.agg #[sa,.int .i64 m.mem.next,ss,sr,.int .i64 m.tag,.int .i64 m.call]] w (RetTw2 w m):=by
 obtain ⟨⟨A,nx⟩,K,R,tg,cl⟩:=m
 dsimp only at hA hK hR hsA hsK hsR ⊢
 obtain ⟨aa,ac,rfl,hac,hacm,-⟩:=hA.form
 obtain ⟨ka,kc,rfl,hkc,hkcm,-⟩:=hK.form
 obtain ⟨ra,rc,rfl,hrc,hrcm,-⟩:=hR.form
 unfold maxLen at hacm hkcm hrcm
 obtain ⟨ni,nz,hni,hnz,hni3,hnz3,hnby⟩:=Int.infoE
 obtain ⟨ki,kz,hki,hkz,hki3,hkz3,hkby⟩:=Stacks.infoE
 replace hni:=Lib.hid hni;replace hnz:=Lib.hid hnz;replace hni3:=Lib.hid hni3;replace hnz3:=Lib.hid hnz3;replace hnby:=Lib.hid hnby
 replace hki:=Lib.hid hki;replace hkz:=Lib.hid hkz;replace hki3:=Lib.hid hki3;replace hkz3:=Lib.hid hkz3;replace hkby:=Lib.hid hkby
 have hE0 : Ext w ((w.alloc (.cells #[.slice aa A.length ac,.int .i64 nx,.slice ka K.length kc,.slice ra R.length rc,.int .i64 tg,.int .i64 cl] 28)).alloc (.cells #[.slice none 0 0,.int .i64 0,.slice none 0 0,.slice none 0 0,.int .i64 0,.int .i64 0] 28)):=((Ext.refl w).alloc _).alloc _
 have bM:=(Box.new w 28 #[.slice aa A.length ac,.int .i64 nx,.slice ka K.length kc,.slice ra R.length rc,.int .i64 tg,.int .i64 cl]).ext ((Ext.refl _).alloc (.cells #[.slice none 0 0,.int .i64 0,.slice none 0 0,.slice none 0 0,.int .i64 0,.int .i64 0] 28))
 have bR:=Box.new (w.alloc (.cells #[.slice aa A.length ac,.int .i64 nx,.slice ka K.length kc,.slice ra R.length rc,.int .i64 tg,.int .i64 cl] 28)) 28 #[.slice none 0 0,.int .i64 0,.slice none 0 0,.slice none 0 0,.int .i64 0,.int .i64 0]
 rw [World.size_alloc] at bR
 have hAl:=Lib.hid hA;have hKl:=Lib.hid hK;have hRl:=Lib.hid hR
 replace hsA:=Lib.hid hsA;replace hsK:=Lib.hid hsK;replace hsR:=Lib.hid hsR
 clear hA hK hR
 go_enter Tryz.func5,Tryz.ntmps5
 go_upto_region 1 with fail
 obtain ⟨w0,hw0⟩ : ∃ z,(w.alloc (.cells #[.slice aa A.length ac,.int .i64 nx,.slice ka K.length kc,.slice ra R.length rc,.int .i64 tg,.int .i64 cl] 28)).alloc (.cells #[.slice none 0 0,.int .i64 0,.slice none 0 0,.slice none 0 0,.int .i64 0,.int .i64 0] 28)=z:=⟨_,rfl⟩
 have hs0 : w0.heap.size=w.heap.size+2:=by rw [← hw0];simp
 rw [hw0] at hE0 bM bR ⊢
 clear hw0
 have hs0:=Lib.hid hs0
 obtain ⟨MB,hMB⟩ : ∃ n,Array.size (World.heap w)=n:=⟨_,rfl⟩
 rw [hMB] at bM bR ⊢
 replace hMB:=Lib.hid hMB
 have m0 : World.cell? w0 ⟨MB,0,none⟩=some (.slice aa A.length ac):=bM.cell 0
 have m1 : World.cell? w0 ⟨MB,1,none⟩=some (.int .i64 nx):=bM.cell 1
 have m2 : World.cell? w0 ⟨MB,2,none⟩=some (.slice ka K.length kc):=bM.cell 2
 have m3 : World.cell? w0 ⟨MB,3,none⟩=some (.slice ra R.length rc):=bM.cell 3
 have m4 : World.cell? w0 ⟨MB,4,none⟩=some (.int .i64 tg):=bM.cell 4
 have m5 : World.cell? w0 ⟨MB,5,none⟩=some (.int .i64 cl):=bM.cell 5
 refine wp_region_rel (R:=(BxX w0.drew.heap.size 28 6 (XTw35 w0 A nx R tg cl))) BxX.refl (fun _ _ _=>BxX.trans XTw35_bxr) [PrR.eq _ (.pointer (some ⟨MB,0,none⟩)),PrR.eq _ (.agg #[.slice aa A.length ac,.int .i64 nx]),(PrTM w0.drew.heap.size w0 A nx R tg cl),(PrTZ w0.drew.heap.size w0 A nx R tg cl),PrR.eq _ (.pointer (some ⟨MB,3,none⟩)),PrR.eq _ (.slice ra R.length rc),(PrTR w0.drew.heap.size w0 A nx R tg cl),PrR.eq _ (.pointer (some ⟨MB,4,none⟩)),PrR.eq _ (.int .i64 tg),PrR.eq _ (.pointer (some ⟨MB,5,none⟩)),PrR.eq _ (.int .i64 cl),(PrTB w0.drew.heap.size w0 A nx R tg cl),(PrR.up (PrRB w0.drew.heap.size 28 6)),(PrTS w0.drew.heap.size w0 A nx R tg cl)] (by kernel_rfl) (by kernel_rfl) ?_ ?_
 ·refine ⟨?_,?_,?_,?_,?_,?_,?_,?_,?_,?_,?_,?_,?_,?_,trivial⟩
  ·intro a w hE hd ho
   refine .inl ⟨rfl,?_⟩
   intro K hK
   have hF : Ext w0 w:=Ext.trans ((Ext.refl _).drew) (BxX.to_ext hE (Nat.le_refl _))
   have e1 : a.eval (.tmp 1) = .pointer (some ⟨MB,0,none⟩):=ho 1 (by kernel_rfl)
   rw [eval_tmp] at e1
   clear m0 m1 m2 m3 m4 m5
   clear hd ho
   replace hK:=Lib.hid hK
   go_simp
   exact hK.out _ _ rfl (BxX.refl _)
  ·intro a w hE hd ho
   refine .inl ⟨rfl,?_⟩
   intro K hK
   have hF : Ext w0 w:=Ext.trans ((Ext.refl _).drew) (BxX.to_ext hE (Nat.le_refl _))
   have e5 : a.eval (.tmp 5) = .pointer (some ⟨MB,0,none⟩):=hd 0 (by kernel_rfl)
   rw [eval_tmp] at e5
   have m0w:=Ext.cell hF m0
   have m1w:=Ext.cell hF m1
   clear m0 m1 m2 m3 m4 m5
   clear hd ho
   replace hK:=Lib.hid hK
   go_simp
   exact hK.out _ _ rfl (BxX.refl _)
  ·intro a w hE hd ho
   refine .inl ⟨rfl,?_⟩
   intro K hK
   have hF : Ext w0 w:=Ext.trans ((Ext.refl _).drew) (BxX.to_ext hE (Nat.le_refl _))
   have e6 : a.eval (.tmp 6) = .agg #[.slice aa A.length ac,.int .i64 nx]:=hd 1 (by kernel_rfl)
   rw [eval_tmp] at e6
   clear m0 m1 m2 m3 m4 m5
   clear hd ho
   replace hK:=Lib.hid hK
   go_simp
   refine (ref26_Twin (next:=nx) (hAl.out.ext (hE0.trans hF)) hsA.out).mono ?_
   rintro e wz ⟨v1,vs1,rfl,hO1,hZ⟩
   obtain ⟨a1,c1,rfl,-⟩:=hO1.outer.sl.slice_form
   go_simp
   exact hK.out _ _ ⟨_,_,_,rfl,OM.mono hO1 (hF.size)⟩ (BxX.of_ext hZ)
  ·intro a w hE hd ho
   refine .inl ⟨rfl,?_⟩
   intro K hK
   have hF : Ext w0 w:=Ext.trans ((Ext.refl _).drew) (BxX.to_ext hE (Nat.le_refl _))
   clear m0 m1 m2 m3 m4 m5
   clear hd ho
   replace hK:=Lib.hid hK
   go_simp
   exact hK.out _ _ ⟨_,rfl,Own.made' _ _ _ _ (hF.size)⟩ (BxX.of_ext ((Ext.refl _).alloc _))
  ·intro a w hE hd ho
   refine .inl ⟨rfl,?_⟩
   intro K hK
   have hF : Ext w0 w:=Ext.trans ((Ext.refl _).drew) (BxX.to_ext hE (Nat.le_refl _))
   have e1 : a.eval (.tmp 1) = .pointer (some ⟨MB,0,none⟩):=ho 1 (by kernel_rfl)
   rw [eval_tmp] at e1
   clear m0 m1 m2 m3 m4 m5
   clear hd ho
   replace hK:=Lib.hid hK
   go_simp
   exact hK.out _ _ rfl (BxX.refl _)
  ·intro a w hE hd ho
   refine .inl ⟨rfl,?_⟩
   intro K hK
   have hF : Ext w0 w:=Ext.trans ((Ext.refl _).drew) (BxX.to_ext hE (Nat.le_refl _))
   have e9 : a.eval (.tmp 9) = .pointer (some ⟨MB,3,none⟩):=hd 4 (by kernel_rfl)
   rw [eval_tmp] at e9
   have m3w:=Ext.cell hF m3
   clear m0 m1 m2 m3 m4 m5
   clear hd ho
   replace hK:=Lib.hid hK
   go_simp
   exact hK.out _ _ rfl (BxX.refl _)
  ·intro a w hE hd ho
   refine .inl ⟨rfl,?_⟩
   intro K hK
   have hF : Ext w0 w:=Ext.trans ((Ext.refl _).drew) (BxX.to_ext hE (Nat.le_refl _))
   obtain ⟨xb8,e8,g8⟩ : ∃ b,a.eval (.tmp 8) = .slice (some ⟨b,0,none⟩) 0 0∧Own w w0.heap.size 3 1 (.slice (some ⟨b,0,none⟩) 0 0) 0 []:=hd 3 (by kernel_rfl)
   rw [eval_tmp] at e8
   have e10 : a.eval (.tmp 10) = .slice ra R.length rc:=hd 5 (by kernel_rfl)
   rw [eval_tmp] at e10
   clear m0 m1 m2 m3 m4 m5
   clear hd ho
   replace hK:=Lib.hid hK
   refine wp_append_lit0 (.tmp 8) (.tmp 10) 26 26 rfl ((eval_tmp a 8).trans e8) ((eval_tmp a 10).trans e10) Tryz.underlying26 Tryz.underlying26 hni.out hnz.out hni3.out hnz3.out g8 (hRl.out.ext (hE0.trans hF)) (irow_one R) (by have:=hsR.out;simp [maxLen];omega) (by rw [hnby.out];have:=hsR.out;omega) hF.size ?_
   intro v1 w1 hO1 hE1
   obtain ⟨a1,c1,rfl,-⟩:=hO1.sl.slice_form
   exact hK.out _ _ ⟨_,_,rfl,hO1⟩ (BxX.of_ext hE1)
  ·intro a w hE hd ho
   refine .inl ⟨rfl,?_⟩
   intro K hK
   have hF : Ext w0 w:=Ext.trans ((Ext.refl _).drew) (BxX.to_ext hE (Nat.le_refl _))
   have e1 : a.eval (.tmp 1) = .pointer (some ⟨MB,0,none⟩):=ho 1 (by kernel_rfl)
   rw [eval_tmp] at e1
   clear m0 m1 m2 m3 m4 m5
   clear hd ho
   replace hK:=Lib.hid hK
   go_simp
   exact hK.out _ _ rfl (BxX.refl _)
  ·intro a w hE hd ho
   refine .inl ⟨rfl,?_⟩
   intro K hK
   have hF : Ext w0 w:=Ext.trans ((Ext.refl _).drew) (BxX.to_ext hE (Nat.le_refl _))
   have e12 : a.eval (.tmp 12) = .pointer (some ⟨MB,4,none⟩):=hd 7 (by kernel_rfl)
   rw [eval_tmp] at e12
   have m4w:=Ext.cell hF m4
   clear m0 m1 m2 m3 m4 m5
   clear hd ho
   replace hK:=Lib.hid hK
   go_simp
   exact hK.out _ _ rfl (BxX.refl _)
  ·intro a w hE hd ho
   refine .inl ⟨rfl,?_⟩
   intro K hK
   have hF : Ext w0 w:=Ext.trans ((Ext.refl _).drew) (BxX.to_ext hE (Nat.le_refl _))
   have e1 : a.eval (.tmp 1) = .pointer (some ⟨MB,0,none⟩):=ho 1 (by kernel_rfl)
   rw [eval_tmp] at e1
   clear m0 m1 m2 m3 m4 m5
   clear hd ho
   replace hK:=Lib.hid hK
   go_simp
   exact hK.out _ _ rfl (BxX.refl _)
  ·intro a w hE hd ho
   refine .inl ⟨rfl,?_⟩
   intro K hK
   have hF : Ext w0 w:=Ext.trans ((Ext.refl _).drew) (BxX.to_ext hE (Nat.le_refl _))
   have e14 : a.eval (.tmp 14) = .pointer (some ⟨MB,5,none⟩):=hd 9 (by kernel_rfl)
   rw [eval_tmp] at e14
   have m5w:=Ext.cell hF m5
   clear m0 m1 m2 m3 m4 m5
   clear hd ho
   replace hK:=Lib.hid hK
   go_simp
   exact hK.out _ _ rfl (BxX.refl _)
  ·intro a w hE hd ho
   refine .inl ⟨rfl,?_⟩
   intro K hK
   have hF : Ext w0 w:=Ext.trans ((Ext.refl _).drew) (BxX.to_ext hE (Nat.le_refl _))
   obtain ⟨xa7,xc7,xv7,e7,g7⟩ : ∃ a' c' vs,a.eval (.tmp 7) = .agg #[.slice a' A.length c',.int .i64 nx]∧OM w w0.heap.size (.slice a' A.length c') vs A:=hd 2 (by kernel_rfl)
   rw [eval_tmp] at e7
   obtain ⟨xa11,xc11,e11,g11⟩ : ∃ a' c',a.eval (.tmp 11) = .slice a' R.length c'∧Own w w0.heap.size 3 1 (.slice a' R.length c') R.length (R.flatMap irow):=hd 6 (by kernel_rfl)
   rw [eval_tmp] at e11
   have e13 : a.eval (.tmp 13) = .int .i64 tg:=hd 8 (by kernel_rfl)
   rw [eval_tmp] at e13
   have e15 : a.eval (.tmp 15) = .int .i64 cl:=hd 10 (by kernel_rfl)
   rw [eval_tmp] at e15
   clear m0 m1 m2 m3 m4 m5
   clear hd ho
   replace hK:=Lib.hid hK
   go_simp
   exact hK.out _ _ ⟨_,_,_,_,_,rfl,g7,g11⟩ (BxX.refl _)
  ·intro a w hE hd ho
   refine .inl ⟨rfl,?_⟩
   intro K hK
   have hF : Ext w0 w:=Ext.trans ((Ext.refl _).drew) (BxX.to_ext hE (Nat.le_refl _))
   clear m0 m1 m2 m3 m4 m5
   clear hd ho
   replace hK:=Lib.hid hK
   go_simp
   exact hK.out _ _ ⟨_,rfl,BxX.size hE,#[.slice none 0 0,.int .i64 0,.slice none 0 0,.slice none 0 0,.int .i64 0,.int .i64 0],rfl,Box.new _ _ _⟩ (BxX.of_ext ((Ext.refl _).alloc _))
  ·intro a w hE hd ho
   refine .inl ⟨rfl,?_⟩
   intro K hK
   have hF : Ext w0 w:=Ext.trans ((Ext.refl _).drew) (BxX.to_ext hE (Nat.le_refl _))
   obtain ⟨bq,eq,hNb,vs0,hv0,hbx⟩ : ∃ b,a.eval (.tmp 3) = .pointer (some ⟨b,0,none⟩)∧w0.drew.heap.size≤b∧BoxT 28 6 w b:=hd 12 (by kernel_rfl)
   rw [eval_tmp] at eq
   have hBT : BoxT 28 6 w bq:=⟨vs0,hv0,hbx⟩
   obtain ⟨u0,u1,u2,u3,u4,u5,rfl⟩ : ∃ u0 u1 u2 u3 u4 u5,vs0=#[u0,u1,u2,u3,u4,u5]:=by match vs0,hv0 with | ⟨[u0,u1,u2,u3,u4,u5]⟩,_=>exact ⟨u0,u1,u2,u3,u4,u5,rfl⟩
   have bc0 : World.cell? w ⟨bq,0,none⟩=some u0:=hbx.cell 0
   have bf0:=hbx.frozen 0
   have bc1 : World.cell? w ⟨bq,1,none⟩=some u1:=hbx.cell 1
   have bf1:=hbx.frozen 1
   have bc2 : World.cell? w ⟨bq,2,none⟩=some u2:=hbx.cell 2
   have bf2:=hbx.frozen 2
   have bc3 : World.cell? w ⟨bq,3,none⟩=some u3:=hbx.cell 3
   have bf3:=hbx.frozen 3
   have bc4 : World.cell? w ⟨bq,4,none⟩=some u4:=hbx.cell 4
   have bf4:=hbx.frozen 4
   have bc5 : World.cell? w ⟨bq,5,none⟩=some u5:=hbx.cell 5
   have bf5:=hbx.frozen 5
   have hbl:=hbx.lt
   replace hBT:=Lib.hid hBT
   obtain ⟨xa16,xc16,xv16,ya16,yc16,e16,g16,k16⟩ : ∃ a' c' vs a2 c2,a.eval (.tmp 16) = .agg #[.slice a' A.length c',.int .i64 nx,.slice none 0 0,.slice a2 R.length c2,.int .i64 tg,.int .i64 cl]∧OM w w0.heap.size (.slice a' A.length c') vs A∧Own w w0.heap.size 3 1 (.slice a2 R.length c2) R.length (R.flatMap irow):=hd 11 (by kernel_rfl)
   rw [eval_tmp] at e16
   clear m0 m1 m2 m3 m4 m5
   have eq0:=Lib.hid ((eval_tmp a 3).trans eq)
   clear hd ho
   replace hK:=Lib.hid hK
   go_simp
   have hEb : ExtBut (· = bq) w (World.setCell (World.setCell (World.setCell (World.setCell (World.setCell (World.setCell w ⟨bq,0,none⟩ (.slice xa16 A.length xc16)) ⟨bq,1,none⟩ (.int .i64 nx)) ⟨bq,2,none⟩ (.slice none 0 0)) ⟨bq,3,none⟩ (.slice ya16 R.length yc16)) ⟨bq,4,none⟩ (.int .i64 tg)) ⟨bq,5,none⟩ (.int .i64 cl)):=by (repeat' with_reducible first | exact ExtBut.refl _ _ | refine ExtBut.dr ?_ | refine ExtBut.sc ?_ ?_ | fail) <;> dsimp only <;> omega
   have hBx : Box (World.setCell (World.setCell (World.setCell (World.setCell (World.setCell (World.setCell w ⟨bq,0,none⟩ (.slice xa16 A.length xc16)) ⟨bq,1,none⟩ (.int .i64 nx)) ⟨bq,2,none⟩ (.slice none 0 0)) ⟨bq,3,none⟩ (.slice ya16 R.length yc16)) ⟨bq,4,none⟩ (.int .i64 tg)) ⟨bq,5,none⟩ (.int .i64 cl)) bq 28 #[.slice xa16 A.length xc16,.int .i64 nx,.slice none 0 0,.slice ya16 R.length yc16,.int .i64 tg,.int .i64 cl]:=(Box.set (Box.set (Box.set (Box.set (Box.set (Box.set hbx 0 (.slice xa16 A.length xc16)) 1 (.int .i64 nx)) 2 (.slice none 0 0)) 3 (.slice ya16 R.length yc16)) 4 (.int .i64 tg)) 5 (.int .i64 cl))
   have hB1 : BxR w0.drew.heap.size 28 6 w (World.setCell (World.setCell (World.setCell (World.setCell (World.setCell (World.setCell w ⟨bq,0,none⟩ (.slice xa16 A.length xc16)) ⟨bq,1,none⟩ (.int .i64 nx)) ⟨bq,2,none⟩ (.slice none 0 0)) ⟨bq,3,none⟩ (.slice ya16 R.length yc16)) ⟨bq,4,none⟩ (.int .i64 tg)) ⟨bq,5,none⟩ (.int .i64 cl)):=BxR.trans (BxR.trans (BxR.trans (BxR.trans (BxR.trans (BxR.set (hBT.out) hNb 0 (.slice xa16 A.length xc16)) (BxR.set (BxR.boxT (BxR.set (hBT.out) hNb 0 (.slice xa16 A.length xc16)) hBT.out) hNb 1 (.int .i64 nx))) (BxR.set (BxR.boxT (BxR.trans (BxR.set (hBT.out) hNb 0 (.slice xa16 A.length xc16)) (BxR.set (BxR.boxT (BxR.set (hBT.out) hNb 0 (.slice xa16 A.length xc16)) hBT.out) hNb 1 (.int .i64 nx))) hBT.out) hNb 2 (.slice none 0 0))) (BxR.set (BxR.boxT (BxR.trans (BxR.trans (BxR.set (hBT.out) hNb 0 (.slice xa16 A.length xc16)) (BxR.set (BxR.boxT (BxR.set (hBT.out) hNb 0 (.slice xa16 A.length xc16)) hBT.out) hNb 1 (.int .i64 nx))) (BxR.set (BxR.boxT (BxR.trans (BxR.set (hBT.out) hNb 0 (.slice xa16 A.length xc16)) (BxR.set (BxR.boxT (BxR.set (hBT.out) hNb 0 (.slice xa16 A.length xc16)) hBT.out) hNb 1 (.int .i64 nx))) hBT.out) hNb 2 (.slice none 0 0))) hBT.out) hNb 3 (.slice ya16 R.length yc16))) (BxR.set (BxR.boxT (BxR.trans (BxR.trans (BxR.trans (BxR.set (hBT.out) hNb 0 (.slice xa16 A.length xc16)) (BxR.set (BxR.boxT (BxR.set (hBT.out) hNb 0 (.slice xa16 A.length xc16)) hBT.out) hNb 1 (.int .i64 nx))) (BxR.set (BxR.boxT (BxR.trans (BxR.set (hBT.out) hNb 0 (.slice xa16 A.length xc16)) (BxR.set (BxR.boxT (BxR.set (hBT.out) hNb 0 (.slice xa16 A.length xc16)) hBT.out) hNb 1 (.int .i64 nx))) hBT.out) hNb 2 (.slice none 0 0))) (BxR.set (BxR.boxT (BxR.trans (BxR.trans (BxR.set (hBT.out) hNb 0 (.slice xa16 A.length xc16)) (BxR.set (BxR.boxT (BxR.set (hBT.out) hNb 0 (.slice xa16 A.length xc16)) hBT.out) hNb 1 (.int .i64 nx))) (BxR.set (BxR.boxT (BxR.trans (BxR.set (hBT.out) hNb 0 (.slice xa16 A.length xc16)) (BxR.set (BxR.boxT (BxR.set (hBT.out) hNb 0 (.slice xa16 A.length xc16)) hBT.out) hNb 1 (.int .i64 nx))) hBT.out) hNb 2 (.slice none 0 0))) hBT.out) hNb 3 (.slice ya16 R.length yc16))) hBT.out) hNb 4 (.int .i64 tg))) (BxR.set (BxR.boxT (BxR.trans (BxR.trans (BxR.trans (BxR.trans (BxR.set (hBT.out) hNb 0 (.slice xa16 A.length xc16)) (BxR.set (BxR.boxT (BxR.set (hBT.out) hNb 0 (.slice xa16 A.length xc16)) hBT.out) hNb 1 (.int .i64 nx))) (BxR.set (BxR.boxT (BxR.trans (BxR.set (hBT.out) hNb 0 (.slice xa16 A.length xc16)) (BxR.set (BxR.boxT (BxR.set (hBT.out) hNb 0 (.slice xa16 A.length xc16)) hBT.out) hNb 1 (.int .i64 nx))) hBT.out) hNb 2 (.slice none 0 0))) (BxR.set (BxR.boxT (BxR.trans (BxR.trans (BxR.set (hBT.out) hNb 0 (.slice xa16 A.length xc16)) (BxR.set (BxR.boxT (BxR.set (hBT.out) hNb 0 (.slice xa16 A.length xc16)) hBT.out) hNb 1 (.int .i64 nx))) (BxR.set (BxR.boxT (BxR.trans (BxR.set (hBT.out) hNb 0 (.slice xa16 A.length xc16)) (BxR.set (BxR.boxT (BxR.set (hBT.out) hNb 0 (.slice xa16 A.length xc16)) hBT.out) hNb 1 (.int .i64 nx))) hBT.out) hNb 2 (.slice none 0 0))) hBT.out) hNb 3 (.slice ya16 R.length yc16))) (BxR.set (BxR.boxT (BxR.trans (BxR.trans (BxR.trans (BxR.set (hBT.out) hNb 0 (.slice xa16 A.length xc16)) (BxR.set (BxR.boxT (BxR.set (hBT.out) hNb 0 (.slice xa16 A.length xc16)) hBT.out) hNb 1 (.int .i64 nx))) (BxR.set (BxR.boxT (BxR.trans (BxR.set (hBT.out) hNb 0 (.slice xa16 A.length xc16)) (BxR.set (BxR.boxT (BxR.set (hBT.out) hNb 0 (.slice xa16 A.length xc16)) hBT.out) hNb 1 (.int .i64 nx))) hBT.out) hNb 2 (.slice none 0 0))) (BxR.set (BxR.boxT (BxR.trans (BxR.trans (BxR.set (hBT.out) hNb 0 (.slice xa16 A.length xc16)) (BxR.set (BxR.boxT (BxR.set (hBT.out) hNb 0 (.slice xa16 A.length xc16)) hBT.out) hNb 1 (.int .i64 nx))) (BxR.set (BxR.boxT (BxR.trans (BxR.set (hBT.out) hNb 0 (.slice xa16 A.length xc16)) (BxR.set (BxR.boxT (BxR.set (hBT.out) hNb 0 (.slice xa16 A.length xc16)) hBT.out) hNb 1 (.int .i64 nx))) hBT.out) hNb 2 (.slice none 0 0))) hBT.out) hNb 3 (.slice ya16 R.length yc16))) hBT.out) hNb 4 (.int .i64 tg))) hBT.out) hNb 5 (.int .i64 cl))
   have hOM:=OM.bxr g16 (by decide) (by decide) hB1
   have hOR:=Own.bxr (n':=0) k16 (by decide) hB1
   have hRR : (BxX w0.drew.heap.size 28 6 (XTw35 w0 A nx R tg cl)) w (World.setCell (World.setCell (World.setCell (World.setCell (World.setCell (World.setCell w ⟨bq,0,none⟩ (.slice xa16 A.length xc16)) ⟨bq,1,none⟩ (.int .i64 nx)) ⟨bq,2,none⟩ (.slice none 0 0)) ⟨bq,3,none⟩ (.slice ya16 R.length yc16)) ⟨bq,4,none⟩ (.int .i64 tg)) ⟨bq,5,none⟩ (.int .i64 cl)):=BxX.but hEb hBT.out hNb rfl hBx ⟨_,_,_,_,_,rfl,hOM,hOR⟩
   exact hK.out undef (World.setCell (World.setCell (World.setCell (World.setCell (World.setCell (World.setCell w ⟨bq,0,none⟩ (.slice xa16 A.length xc16)) ⟨bq,1,none⟩ (.int .i64 nx)) ⟨bq,2,none⟩ (.slice none 0 0)) ⟨bq,3,none⟩ (.slice ya16 R.length yc16)) ⟨bq,4,none⟩ (.int .i64 tg)) ⟨bq,5,none⟩ (.int .i64 cl)) ⟨bq,_,_,_,_,_,eq0.out,hNb,hBx,hOM,hOR⟩ hRR
 ·intro vals Ac wq hAc hE hv hsv
  have hF : Ext w0 wq:=Ext.trans ((Ext.refl _).drew) (BxX.to_ext hE (Nat.le_refl _))
  obtain ⟨BO,xa,xc,vsA,ya,yc,eb,hNb,hBx,hOM,hOR⟩ : ∃ b a c vs a2 c2,vals 13 = .pointer (some ⟨b,0,none⟩)∧w0.drew.heap.size≤b∧Box wq b 28 #[.slice a A.length c,.int .i64 nx,.slice none 0 0,.slice a2 R.length c2,.int .i64 tg,.int .i64 cl]∧OM wq w0.heap.size (.slice a A.length c) vs A∧Own wq w0.heap.size 3 1 (.slice a2 R.length c2) R.length (R.flatMap irow):=hv 13 (by decide)
  have e3 : vals 12 = .pointer (some ⟨BO,0,none⟩):=((hsv 12).trans (hsv 13).symm).trans eb
  clear hv hsv hE eb
  subst hAc
  simp only [putAll]
  go_simp
  try rw [e3]
  clear e3 m0 m1 m2 m3 m4 m5
  have bM:=bM.ext hF;have bR:=bR.ext hF;have hG:=hE0.trans hF
  have hNb : w0.heap.size≤BO:=hNb
  have hMB2:=hMB.out
  subst hMB2
  have hlA : (∀ g,(Value.slice xa A.length xc).ownBlock=some g→g < wq.heap.size) ∧ ∀ s ∈ vsA,∀ g,s.ownBlock=some g→g < wq.heap.size:=⟨fun g e=>(hOM.outer.lt e).2,fun s hs g e=>(OM.inner_lt hOM s hs g e).2⟩
  have hlR : ∀ g,(Value.slice ya R.length yc).ownBlock=some g→g < wq.heap.size:=fun g e=>(hOR.lt e).2
  have hty : tyB wq BO=some 28:=by have:=hBx;unfold tyB;rw [show wq.heap[BO]? = _ from this]
  have hnA : ∀ g,(Value.slice xa A.length xc).ownBlock=some g→g≠BO:=fun g e h=>by subst h;have:=hOM.outer.ty e;rw [hty] at this;simp at this
  have hnA2 : ∀ s ∈ vsA,∀ g,s.ownBlock=some g→g≠BO:=fun s hs g e h=>by subst h;have:=OM.ty hOM hs e;rw [hty] at this;simp at this
  have hnR : ∀ g,(Value.slice ya R.length yc).ownBlock=some g→g≠BO:=fun g e h=>by subst h;have:=hOR.ty e;rw [hty] at this;simp at this
  have hBl:=hBx.lt
  have hsq:=hF.size
  have hH:=Lib.hid (And.intro hOM (And.intro hOR (And.intro hlA (And.intro hlR (And.intro hnA (And.intro hnA2 (And.intro hnR (And.intro hG (And.intro bM (And.intro bR hBx))))))))))
  replace hNb:=Lib.hid hNb;replace hBl:=Lib.hid hBl;replace hsq:=Lib.hid hsq
  clear hOM hOR hlA hlR hty hnA hnA2 hnR hF hG bM bR hE0
  have hcO:=hBx.cell 1
  clear hBx hcO
  go_wp2
  go_loopw [4] (fun iv wr => ∃ (k : Nat) (v : Value) (vs : List Value),k≤K.length∧iv = .int .i64 k∧Box wr BO 28 #[.slice xa A.length xc,.int .i64 nx,v,.slice ya R.length yc,.int .i64 tg,.int .i64 cl]∧OwnK2 wr wq.heap.size v vs (K.take k)∧ExtBut (· = BO) wq wr) (fun iv _=>K.length - (intOf iv).toNat)
  case atStart=>exact ⟨0,_,[],Nat.zero_le _,rfl,hH.out.2.2.2.2.2.2.2.2.2.2,OwnK2.nil _ _,ExtBut.refl _ _⟩
  case round =>
   obtain ⟨k,v,vs,hk,rfl,bO,hT,hX⟩:=hrel
   have h0:=hs0.out
   have hNb0:=hNb.out
   have bM:=hH.out.2.2.2.2.2.2.2.2.1.but hX (by omega)
   have bR:=hH.out.2.2.2.2.2.2.2.2.2.1.but hX (by omega)
   have hF : Ext w wr:=ExtBut.ext hH.out.2.2.2.2.2.2.2.1 hX (fun x h=>by omega)
   have hlk : (K.take k).length=k:=by rw [List.length_take];omega
   have hOv:=hT.base.outer
   rw [hlk] at hOv
   obtain ⟨av,cv,rfl,hcv1,hcv2,-⟩:=hOv.sl.slice_form
   unfold maxLen at hcv2
   have m0 : wr.cell? ⟨w.heap.size,2,none⟩=some (.slice ka K.length kc):=bM.cell 2
   have o0 : wr.cell? ⟨BO,2,none⟩=some (.slice av k cv):=bO.cell 2
   have hBl:=bO.lt
   by_cases hlt : k < K.length
   ·obtain ⟨x,hx⟩ : ∃ x,K[k]? = some x:=⟨K[k],by simp [hlt]⟩
    obtain ⟨b,off,sv,rfl,hbb,d0,d1,hcl⟩:=(hKl.out.ext hF).cell hx
    obtain ⟨ca,ccp,rfl,hclc,hccm,-⟩:=hcl.form
    obtain ⟨xn,xcs⟩:=x
    dsimp only at d0 d1 hcl hccm hclc ⊢
    have hxs : xcs.length≤1000000 ∧ ∀ s ∈ xcs,s.length≤1000000:=hsK.out.2 _ (List.mem_of_getElem? hx)
    have hsq0:=hsq.out
    have hsqr:=hX.size
    have hvB:=fun g e=>(hOv.lt (g:=g) e).1
    have hA:=Lib.hid (And.intro hx (And.intro hT (And.intro hX (And.intro hOv (And.intro bO (And.intro hlk hvB))))))
    have hk6 : k≤1000000:=by have:=hsK.out.1;omega
    have hBlq:=hBl
    replace hsqr:=Lib.hid hsqr
    clear hx hT hX hOv bO hlk bM bR hbb h0 hNb0 hvB hsq0
    go_wp2
    go_region_law (first | (rw [if_pos (by rfl)];refine wp_append_any (.tmp 25) (.tmp 32) 25 25 rfl rfl rfl (B:=wq.heap.size) (e:=33) (n:=k) (m:=1) (xs:=trows krow vs (K.take k)) (ys:=krow (.slice an xcs.length cn) ⟨xn,xcs⟩) Tryz.underlying25 Tryz.underlying25 hki.out hkz.out hki3.out hkz3.out ?_ ?_ ?_ ?_ ?_ ?_ ?_;(first | exact hA.out.2.2.2.1.ext hB.out.1 | exact hA.out.2.2.2.1.ext hB.out.1.drew);(first | exact (Own.lit' (B:=0) (e:=33) (k:=2) w4 #[.int .i64 xn,.slice an xcs.length cn] 1 (Nat.zero_le _) (by simp [maxLen]) rfl).sl | exact (Own.lit' (B:=0) (e:=33) (k:=2) w4 #[.int .i64 xn,.slice an xcs.length cn] 1 (Nat.zero_le _) (by simp [maxLen]) rfl).sl.ext (Ext.refl _).drew);(simp [krow,Value.oneCell']);(simp [maxLen];omega);(rw [hkby.out];omega);(exact Nat.le_trans hA.out.2.2.1.size hB.out.1.size);intro v' w6 hOv hKv hbv _;(obtain ⟨av',cv',rfl,-⟩:=hOv.sl.slice_form);(have bO6 : Box w6 BO 28 #[.slice xa A.length xc,.int .i64 nx,.slice av k cv,.slice ya R.length yc,.int .i64 tg,.int .i64 cl]:=(hA.out.2.2.2.2.1.ext hB.out.1).but (ExtBut.of_keeps hKv) (fun h=>by have h1:=hA.out.2.2.2.2.2.2 _ h;have h2:=hH.out.2.2.2.2.2.2.2.2.2.2.lt;omega));(have o6 : w6.cell? ⟨BO,2,none⟩=some (.slice av k cv):=bO6.cell 2);(have of6:=bO6.frozen 2);(have hC:=Lib.hid (And.intro hOv (And.intro hKv (And.intro hbv bO6))));clear hOv hKv hbv bO6) | (go_simp;go_at_call 27;refine (ref33_Twin (num:=xn) (hcl.ext ?_) hxs).mono ?_;(first | exact (Ext.refl _).drew | exact Ext.refl _);rintro e w4 ⟨sn,vn,rfl,hOn,hE4⟩;(have hE4' : Ext wr w4:=(by first | exact hE4 | exact ((Ext.refl wr).drew).trans hE4));(have hOn2 : OwnS w4 wr.heap.size sn vn xcs:=hOn);(obtain ⟨an,cn,rfl,hcn,hcn2,-⟩:=(Own.sl hOn.outer).slice_form);(have o4:=hE4'.cell o0);(have hBl4 : BO < w4.heap.size:=Nat.lt_of_lt_of_le hBl hE4'.size);(have hB:=Lib.hid (And.intro (hE4'.alloc (.cells #[.int .i64 xn,.slice an xcs.length cn] 33)) (And.intro hOn2 hE4')));clear hOn hOn2 hE4 hE4'))
    all_goals
     have hOv:=hC.out.1
     have hKv : Keeps (w4.alloc (.cells #[.int .i64 xn,.slice an xcs.length cn] 33)) w6 wq.heap.size (.slice av k cv):=hC.out.2.1
     have hlk:=hA.out.2.2.2.2.2.1
     have hRw : Fq (fun b=>wq.heap.size≤b∧(Value.slice av k cv).ownBlock≠some b) (w4.alloc (.cells #[.int .i64 xn,.slice an xcs.length cn] 33)) (fun w=>Sts w (.slice an xcs.length cn) xcs):=((OwnS.fs hB.out.2.1).mono (fun b h1 _=>⟨by have:=hsqr.out;omega,fun e=>by have:=(hA.out.2.2.2.1.lt e).2;omega⟩)).ext ((Ext.refl _).alloc _)
     have hP : OwnK2 w6 wq.heap.size (.slice av' (k+1) cv') (vs ++ [.slice an xcs.length cn]) (K.take k ++ [⟨xn,xcs⟩]):=OwnK2.push (hA.out.2.1.ext hB.out.1) hRw ⟨_,(OwnS.mono hB.out.2.1 hsqr.out).ext ((Ext.refl _).alloc _)⟩ (by rw [hlk];exact hOv) hKv (by rcases hC.out.2.2.1 with h | ⟨g,h1,h2⟩;exact .inl h;exact .inr ⟨g,h1,h2⟩)
     have htk : K.take k ++ [⟨xn,xcs⟩]=K.take (k+1):=by rw [List.take_add_one,hA.out.1];rfl
     rw [htk] at hP
     have hvB:=hA.out.2.2.2.2.2.2
     have hX6:=((hA.out.2.2.1.trans (ExtBut.of_ext hB.out.1)).trans' (ExtBut.of_keeps hKv) (fun x hx h=>by have:=hvB _ h;omega)).trans (ExtBut.setCell w6 ⟨BO,2,none⟩ (.slice av' (k+1) cv'))
     have hP7:=OwnK2.but hP (ExtBut.setCell w6 ⟨BO,2,none⟩ (.slice av' (k+1) cv')) (fun g e h=>by have h2:=hH.out.2.2.2.2.2.2.2.2.2.2.lt;have h' : g=BO:=h;omega)
     have bO7:=hC.out.2.2.2.set 2 (.slice av' (k+1) cv')
     have hR:=Lib.hid (And.intro bO7 (And.intro hP7 hX6))
     clear hvB hX6 hP7 bO7 hP hOv hKv hlk htk hC o6 of6 hRw
     go_wp2
     go_roundw
     case rel=>exact ⟨k+1,_,_,by omega,by go_num,hR.out.1,hR.out.2.1,hR.out.2.2⟩
     case measure=>simp [intOf];omega
   ·have hkl : k=K.length:=by omega
    subst hkl
    rw [List.take_length] at hT
    have q0 : wr.cell? ⟨BO,0,none⟩=some (.slice xa A.length xc):=bO.cell 0
    have q1 : wr.cell? ⟨BO,1,none⟩=some (.int .i64 nx):=bO.cell 1
    have q2 : wr.cell? ⟨BO,2,none⟩=some (.slice av K.length cv):=bO.cell 2
    have q3 : wr.cell? ⟨BO,3,none⟩=some (.slice ya R.length yc):=bO.cell 3
    have q4 : wr.cell? ⟨BO,4,none⟩=some (.int .i64 tg):=bO.cell 4
    have q5 : wr.cell? ⟨BO,5,none⟩=some (.int .i64 cl):=bO.cell 5
    have r0 : wr.cell? ⟨w.heap.size+1,0,none⟩=some (.slice none 0 0):=bR.cell 0
    have rf0:=bR.frozen 0
    have r1 : wr.cell? ⟨w.heap.size+1,1,none⟩=some (.int .i64 0):=bR.cell 1
    have rf1:=bR.frozen 1
    have r2 : wr.cell? ⟨w.heap.size+1,2,none⟩=some (.slice none 0 0):=bR.cell 2
    have rf2:=bR.frozen 2
    have r3 : wr.cell? ⟨w.heap.size+1,3,none⟩=some (.slice none 0 0):=bR.cell 3
    have rf3:=bR.frozen 3
    have r4 : wr.cell? ⟨w.heap.size+1,4,none⟩=some (.int .i64 0):=bR.cell 4
    have rf4:=bR.frozen 4
    have r5 : wr.cell? ⟨w.heap.size+1,5,none⟩=some (.int .i64 0):=bR.cell 5
    have rf5:=bR.frozen 5
    have hT':=Lib.hid hT
    have hXh:=Lib.hid hX
    clear hT hlk hOv bM hX o0
    go_wp2
    have hY : ExtBut (fun b=>b=w.heap.size+1) wr _:=(ExtBut.trans (ExtBut.trans (ExtBut.trans (ExtBut.trans (ExtBut.trans ((ExtBut.setCell wr ⟨w.heap.size+1,0,none⟩ (.slice xa A.length xc)).mono (S':=fun b=>b=w.heap.size+1) (fun _ _ h=>h)) ((ExtBut.setCell (World.setCell wr ⟨w.heap.size+1,0,none⟩ (.slice xa A.length xc)) ⟨w.heap.size+1,1,none⟩ (.int .i64 nx)).mono (S':=fun b=>b=w.heap.size+1) (fun _ _ h=>h))) ((ExtBut.setCell (World.setCell (World.setCell wr ⟨w.heap.size+1,0,none⟩ (.slice xa A.length xc)) ⟨w.heap.size+1,1,none⟩ (.int .i64 nx)) ⟨w.heap.size+1,2,none⟩ (.slice av K.length cv)).mono (S':=fun b=>b=w.heap.size+1) (fun _ _ h=>h))) ((ExtBut.setCell (World.setCell (World.setCell (World.setCell wr ⟨w.heap.size+1,0,none⟩ (.slice xa A.length xc)) ⟨w.heap.size+1,1,none⟩ (.int .i64 nx)) ⟨w.heap.size+1,2,none⟩ (.slice av K.length cv)) ⟨w.heap.size+1,3,none⟩ (.slice ya R.length yc)).mono (S':=fun b=>b=w.heap.size+1) (fun _ _ h=>h))) ((ExtBut.setCell (World.setCell (World.setCell (World.setCell (World.setCell wr ⟨w.heap.size+1,0,none⟩ (.slice xa A.length xc)) ⟨w.heap.size+1,1,none⟩ (.int .i64 nx)) ⟨w.heap.size+1,2,none⟩ (.slice av K.length cv)) ⟨w.heap.size+1,3,none⟩ (.slice ya R.length yc)) ⟨w.heap.size+1,4,none⟩ (.int .i64 tg)).mono (S':=fun b=>b=w.heap.size+1) (fun _ _ h=>h))) ((ExtBut.setCell (World.setCell (World.setCell (World.setCell (World.setCell (World.setCell wr ⟨w.heap.size+1,0,none⟩ (.slice xa A.length xc)) ⟨w.heap.size+1,1,none⟩ (.int .i64 nx)) ⟨w.heap.size+1,2,none⟩ (.slice av K.length cv)) ⟨w.heap.size+1,3,none⟩ (.slice ya R.length yc)) ⟨w.heap.size+1,4,none⟩ (.int .i64 tg)) ⟨w.heap.size+1,5,none⟩ (.int .i64 cl)).mono (S':=fun b=>b=w.heap.size+1) (fun _ _ h=>h)))
    have hT:=hT'.out
    have hX:=hXh.out
    refine bodyPost_ret (v := .agg #[.slice xa A.length xc,.int .i64 nx,.slice av K.length cv,.slice ya R.length yc,.int .i64 tg,.int .i64 cl]) (by simp [results,Tryz.f5,go_sem,r0,r1,r2,r3,r4,r5]) rfl ?_
    obtain ⟨hOM,hOR,hlA,hlR,hnA,hnA2,hnR,-⟩:=hH.out
    have hsq0:=hsq.out
    have hsqr:=hX.size
    have hXY : ExtBut (fun b=>b=BO∨b=w.heap.size+1) wq _:=(hX.mono (fun _ _ h => .inl h)).trans (hY.mono (fun _ _ h => .inr h))
    have hOM2:=OM.but hOM hXY (fun g e h=>by have:=(hOM.outer.lt e).1;rcases h with h | h;exact hnA g e h;omega) (fun s hs g e h=>by have:=(OM.inner_lt hOM s hs g e).1;rcases h with h | h;exact hnA2 s hs g e h;omega)
    have hOR2:=ExtBut.own hOR hXY (fun g e h=>by have:=(hOR.lt e).1;rcases h with h | h;exact hnR g e h;omega)
    have hT2:=hT.but hY (fun b hb h=>by omega)
    exact ⟨wq.heap.size,_,_,_,vsA,vs,rfl,⟨OM.mono hOM2 (by omega),hOR2.mono (by omega),hT2.base,⟨by omega,by have:=hXY.size;omega⟩,hlA,hlR⟩,hT2.ins,ExtBut.ext hF hY (fun x h=>by omega)⟩
end Go.Proofs.YtepdbdckjmkbhaaGreatDoor
