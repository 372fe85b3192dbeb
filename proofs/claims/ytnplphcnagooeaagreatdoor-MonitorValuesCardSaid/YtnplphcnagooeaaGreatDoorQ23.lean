/- Several texts in one: RfA, RfB, DeaC. -/
import Derived.Test.YtnplphcnagooeaaGreatDoorQ07
import Derived.Test.YtnplphcnagooeaaGreatDoorQ22
import Derived.BigQuiet
import Derived.Deep.QuietTactic
import Derived.Test.YtnplphcnagooeaaGreatDoorQ02
import Derived.Test.YtnplphcnagooeaaGreatDoorQ06
import Derived.Test.YtnplphcnagooeaaGreatDoorQ08
import Derived.Test.YtnplphcnagooeaaGreatDoorQ09
/- Contracts: the reference's stacked of layer 35. (printed by gen/ref35a.py) -/
namespace Go.Proofs.YtnplphcnagooeaaGreatDoor
set_option maxRecDepth 100000
open Go.RowKit
def XS35 (x a : Array Value) (T : TypeId) (vs : Array Value) : Prop:=(T=68→vs=x)∧(T=74→vs=a)
set_option maxRecDepth 100000 in
set_option maxHeartbeats 12800000 in
theorem ref35_stacked {A : List Alloc} {nx : Int} {K : List Stk} {R : List Int} {tg cl : Int} {va vs vr : Value} {w : World} (hA : Als w va A) (hK : Kts w vs K) (hR : Nts w vr R) (hlen : K.length=A.length) {i : Nat} (hi : i < K.length) :
  Calls Tryz.prog 59 #[.agg #[va,.int .i64 nx,vs,vr,.int .i64 tg,.int .i64 cl],.int .i64 (i : Int)] w fun e w'=>e = .returned (.bool (rowAtM ⟨⟨A,nx⟩,K,R,tg,cl⟩ i))∧Ext w w':=by
 obtain ⟨aa,ac,rfl,hac,hacm,-⟩:=hA.form
 obtain ⟨ka,kc,rfl,hkc,hkcm,-⟩:=hK.form
 obtain ⟨ra,rc,rfl,hrc,hrcm,-⟩:=hR.form
 unfold maxLen at hacm hkcm hrcm
 obtain ⟨al,hal⟩ : ∃ x,A[i]? = some x:=⟨A[i]'(by rw [← hlen];exact hi),by simp⟩
 obtain ⟨st,hst⟩ : ∃ x,K[i]? = some x:=⟨K[i],by simp⟩
 obtain ⟨b,off,s,rfl,hbb,a0,a1,a2,hcl⟩:=hA.cell hal
 obtain ⟨kb,ko,ks,rfl,hkb,k0,k1,hks⟩:=hK.cell hst
 obtain ⟨ca,cc,rfl,-⟩:=Cls.form hcl
 obtain ⟨sa,sc,rfl,hsc,hscm,-⟩:=hks.form
 obtain ⟨anum,alive,acells⟩:=al
 obtain ⟨snum,scells⟩:=st
 dsimp only at *
 have hrow : rowAtM ⟨⟨A,nx⟩,K,R,tg,cl⟩ i=rowM tg cl ⟨snum,scells⟩ ⟨anum,alive,acells⟩:=by simp only [rowAtM,hst,hal]
 rw [hrow]
 unfold maxLen at hscm
 have hi0 : (0 : Int)≤(i : Int):=by omega
 have hi2 : (i : Int) < (K.length : Int):=by omega
 have hi1 : (i : Int) < (A.length : Int):=by omega
 have hE0 : Ext w (World.alloc w (.cells #[.slice (some ⟨b,off,none⟩) A.length ac,.int .i64 nx,.slice (some ⟨kb,ko,none⟩) K.length kc,.slice ra R.length rc,.int .i64 tg,.int .i64 cl] 28)):=(Ext.refl w).alloc _
 have bM:=Box.new w 28 #[.slice (some ⟨b,off,none⟩) A.length ac,.int .i64 nx,.slice (some ⟨kb,ko,none⟩) K.length kc,.slice ra R.length rc,.int .i64 tg,.int .i64 cl]
 replace a0:=Ext.cell hE0 a0
 replace a1:=Ext.cell hE0 a1
 replace a2:=Ext.cell hE0 a2
 replace k0:=Ext.cell hE0 k0
 replace k1:=Ext.cell hE0 k1
 replace hks:=Lib.hid (hks.ext hE0)
 clear hcl hal hst hrow hlen hi hA hK hR hbb hkb
 go_enter Tryz.func59,Tryz.ntmps59
 go_upto_region 1 with fail
 obtain ⟨w0,hw0⟩ : ∃ z,World.alloc w (.cells #[.slice (some ⟨b,off,none⟩) A.length ac,.int .i64 nx,.slice (some ⟨kb,ko,none⟩) K.length kc,.slice ra R.length rc,.int .i64 tg,.int .i64 cl] 28)=z:=⟨_,rfl⟩
 rw [hw0] at a0 a1 a2 k0 k1 hks bM hE0 ⊢
 clear hw0
 obtain ⟨MB,hMB⟩ : ∃ n,Array.size (World.heap w)=n:=⟨_,rfl⟩
 rw [hMB] at bM ⊢
 clear hMB
 have m0 : World.cell? w0 ⟨MB,0,none⟩=some (.slice (some ⟨b,off,none⟩) A.length ac):=bM.cell 0
 have m1 : World.cell? w0 ⟨MB,1,none⟩=some (.int .i64 nx):=bM.cell 1
 have m2 : World.cell? w0 ⟨MB,2,none⟩=some (.slice (some ⟨kb,ko,none⟩) K.length kc):=bM.cell 2
 have m3 : World.cell? w0 ⟨MB,3,none⟩=some (.slice ra R.length rc):=bM.cell 3
 have m4 : World.cell? w0 ⟨MB,4,none⟩=some (.int .i64 tg):=bM.cell 4
 have m5 : World.cell? w0 ⟨MB,5,none⟩=some (.int .i64 cl):=bM.cell 5
 refine wp_region_rel (R:=(BxS w0.drew.heap.size [(68,2),(74,3)] (XS35 (#[.int .i64 snum,.slice sa scells.length sc]) (#[.int .i64 anum,.bool alive,.slice ca acells.length cc])))) BxS.refl (fun _ _ _=>BxS.trans) [PrR.eq _ (.pointer (some ⟨MB,2,none⟩)),PrR.eq _ (.slice (some ⟨kb,ko,none⟩) K.length kc),PrR.eq _ (.int .i64 (i : Int)),PrR.eq _ (.pointer (some ⟨kb,ko+i * 2,none⟩)),PrR.eq _ (.agg #[.int .i64 snum,.slice sa scells.length sc]),PrR.eq _ (.pointer (some ⟨MB,0,none⟩)),PrR.eq _ (.pointer (some ⟨MB,0,none⟩)),PrR.eq _ (.slice (some ⟨b,off,none⟩) A.length ac),PrR.eq _ (.int .i64 (i : Int)),PrR.eq _ (.pointer (some ⟨b,off+i * 3,none⟩)),PrR.eq _ (.agg #[.int .i64 anum,.bool alive,.slice ca acells.length cc]),(PrSB w0.drew.heap.size [(68,2),(74,3)] (XS35 (#[.int .i64 snum,.slice sa scells.length sc]) (#[.int .i64 anum,.bool alive,.slice ca acells.length cc])) 68 2),(PrSB w0.drew.heap.size [(68,2),(74,3)] (XS35 (#[.int .i64 snum,.slice sa scells.length sc]) (#[.int .i64 anum,.bool alive,.slice ca acells.length cc])) 74 3),(PrSH w0.drew.heap.size [(68,2),(74,3)] (XS35 (#[.int .i64 snum,.slice sa scells.length sc]) (#[.int .i64 anum,.bool alive,.slice ca acells.length cc])) 68 #[.int .i64 snum,.slice sa scells.length sc] (fun _ h=>h.1 rfl)),(PrSH w0.drew.heap.size [(68,2),(74,3)] (XS35 (#[.int .i64 snum,.slice sa scells.length sc]) (#[.int .i64 anum,.bool alive,.slice ca acells.length cc])) 74 #[.int .i64 anum,.bool alive,.slice ca acells.length cc] (fun _ h=>h.2 rfl))] (by kernel_rfl) (by kernel_rfl) ?_ ?_
 ·refine ⟨?_,?_,?_,?_,?_,?_,?_,?_,?_,?_,?_,?_,?_,?_,?_,trivial⟩
  ·intro a w hE hd ho
   refine .inl ⟨rfl,?_⟩
   intro Kq hKq
   have hF : Ext w0 w:=Ext.trans ((Ext.refl _).drew) (BxS.to_ext hE (Nat.le_refl _))
   have e2 : a.eval (.tmp 2) = .pointer (some ⟨MB,0,none⟩):=ho 2 (by kernel_rfl)
   rw [eval_tmp] at e2
   clear m0 m1 m2 m3 m4 m5 a0 a1 a2 k0 k1
   clear hd ho
   replace hKq:=Lib.hid hKq
   go_simp
   exact hKq.out _ _ rfl (BxS.refl _)
  ·intro a w hE hd ho
   refine .inl ⟨rfl,?_⟩
   intro Kq hKq
   have hF : Ext w0 w:=Ext.trans ((Ext.refl _).drew) (BxS.to_ext hE (Nat.le_refl _))
   have e9 : a.eval (.tmp 9) = .pointer (some ⟨MB,2,none⟩):=hd 0 (by kernel_rfl)
   rw [eval_tmp] at e9
   have m2w:=Ext.cell hF m2
   clear m0 m1 m2 m3 m4 m5 a0 a1 a2 k0 k1
   clear hd ho
   replace hKq:=Lib.hid hKq
   go_simp
   exact hKq.out _ _ rfl (BxS.refl _)
  ·intro a w hE hd ho
   refine .inl ⟨rfl,?_⟩
   intro Kq hKq
   have hF : Ext w0 w:=Ext.trans ((Ext.refl _).drew) (BxS.to_ext hE (Nat.le_refl _))
   have e1 : a.eval (.tmp 1) = .int .i64 (i : Int):=ho 1 (by kernel_rfl)
   rw [eval_tmp] at e1
   clear m0 m1 m2 m3 m4 m5 a0 a1 a2 k0 k1
   clear hd ho
   replace hKq:=Lib.hid hKq
   go_simp
   exact hKq.out _ _ rfl (BxS.refl _)
  ·intro a w hE hd ho
   refine .inl ⟨rfl,?_⟩
   intro Kq hKq
   have hF : Ext w0 w:=Ext.trans ((Ext.refl _).drew) (BxS.to_ext hE (Nat.le_refl _))
   have e10 : a.eval (.tmp 10) = .slice (some ⟨kb,ko,none⟩) K.length kc:=hd 1 (by kernel_rfl)
   rw [eval_tmp] at e10
   have e11 : a.eval (.tmp 11) = .int .i64 (i : Int):=hd 2 (by kernel_rfl)
   rw [eval_tmp] at e11
   clear m0 m1 m2 m3 m4 m5 a0 a1 a2 k0 k1
   clear hd ho
   replace hKq:=Lib.hid hKq
   go_simp
   exact hKq.out _ _ rfl (BxS.refl _)
  ·intro a w hE hd ho
   refine .inl ⟨rfl,?_⟩
   intro Kq hKq
   have hF : Ext w0 w:=Ext.trans ((Ext.refl _).drew) (BxS.to_ext hE (Nat.le_refl _))
   have e12 : a.eval (.tmp 12) = .pointer (some ⟨kb,ko+i * 2,none⟩):=hd 3 (by kernel_rfl)
   rw [eval_tmp] at e12
   have k0w:=Ext.cell hF k0
   have k1w:=Ext.cell hF k1
   clear m0 m1 m2 m3 m4 m5 a0 a1 a2 k0 k1
   clear hd ho
   replace hKq:=Lib.hid hKq
   go_simp
   exact hKq.out _ _ rfl (BxS.refl _)
  ·intro a w hE hd ho
   refine .inl ⟨rfl,?_⟩
   intro Kq hKq
   have hF : Ext w0 w:=Ext.trans ((Ext.refl _).drew) (BxS.to_ext hE (Nat.le_refl _))
   have e2 : a.eval (.tmp 2) = .pointer (some ⟨MB,0,none⟩):=ho 2 (by kernel_rfl)
   rw [eval_tmp] at e2
   clear m0 m1 m2 m3 m4 m5 a0 a1 a2 k0 k1
   clear hd ho
   replace hKq:=Lib.hid hKq
   go_simp
   exact hKq.out _ _ rfl (BxS.refl _)
  ·intro a w hE hd ho
   refine .inl ⟨rfl,?_⟩
   intro Kq hKq
   have hF : Ext w0 w:=Ext.trans ((Ext.refl _).drew) (BxS.to_ext hE (Nat.le_refl _))
   have e14 : a.eval (.tmp 14) = .pointer (some ⟨MB,0,none⟩):=hd 5 (by kernel_rfl)
   rw [eval_tmp] at e14
   clear m0 m1 m2 m3 m4 m5 a0 a1 a2 k0 k1
   clear hd ho
   replace hKq:=Lib.hid hKq
   go_simp
   exact hKq.out _ _ rfl (BxS.refl _)
  ·intro a w hE hd ho
   refine .inl ⟨rfl,?_⟩
   intro Kq hKq
   have hF : Ext w0 w:=Ext.trans ((Ext.refl _).drew) (BxS.to_ext hE (Nat.le_refl _))
   have e15 : a.eval (.tmp 15) = .pointer (some ⟨MB,0,none⟩):=hd 6 (by kernel_rfl)
   rw [eval_tmp] at e15
   have m0w:=Ext.cell hF m0
   clear m0 m1 m2 m3 m4 m5 a0 a1 a2 k0 k1
   clear hd ho
   replace hKq:=Lib.hid hKq
   go_simp
   exact hKq.out _ _ rfl (BxS.refl _)
  ·intro a w hE hd ho
   refine .inl ⟨rfl,?_⟩
   intro Kq hKq
   have hF : Ext w0 w:=Ext.trans ((Ext.refl _).drew) (BxS.to_ext hE (Nat.le_refl _))
   have e1 : a.eval (.tmp 1) = .int .i64 (i : Int):=ho 1 (by kernel_rfl)
   rw [eval_tmp] at e1
   clear m0 m1 m2 m3 m4 m5 a0 a1 a2 k0 k1
   clear hd ho
   replace hKq:=Lib.hid hKq
   go_simp
   exact hKq.out _ _ rfl (BxS.refl _)
  ·intro a w hE hd ho
   refine .inl ⟨rfl,?_⟩
   intro Kq hKq
   have hF : Ext w0 w:=Ext.trans ((Ext.refl _).drew) (BxS.to_ext hE (Nat.le_refl _))
   have e16 : a.eval (.tmp 16) = .slice (some ⟨b,off,none⟩) A.length ac:=hd 7 (by kernel_rfl)
   rw [eval_tmp] at e16
   have e17 : a.eval (.tmp 17) = .int .i64 (i : Int):=hd 8 (by kernel_rfl)
   rw [eval_tmp] at e17
   clear m0 m1 m2 m3 m4 m5 a0 a1 a2 k0 k1
   clear hd ho
   replace hKq:=Lib.hid hKq
   go_simp
   exact hKq.out _ _ rfl (BxS.refl _)
  ·intro a w hE hd ho
   refine .inl ⟨rfl,?_⟩
   intro Kq hKq
   have hF : Ext w0 w:=Ext.trans ((Ext.refl _).drew) (BxS.to_ext hE (Nat.le_refl _))
   have e18 : a.eval (.tmp 18) = .pointer (some ⟨b,off+i * 3,none⟩):=hd 9 (by kernel_rfl)
   rw [eval_tmp] at e18
   have a0w:=Ext.cell hF a0
   have a1w:=Ext.cell hF a1
   have a2w:=Ext.cell hF a2
   clear m0 m1 m2 m3 m4 m5 a0 a1 a2 k0 k1
   clear hd ho
   replace hKq:=Lib.hid hKq
   go_simp
   exact hKq.out _ _ rfl (BxS.refl _)
  ·intro a w hE hd ho
   refine .inl ⟨rfl,?_⟩
   intro Kq hKq
   have hF : Ext w0 w:=Ext.trans ((Ext.refl _).drew) (BxS.to_ext hE (Nat.le_refl _))
   clear m0 m1 m2 m3 m4 m5 a0 a1 a2 k0 k1
   clear hd ho
   replace hKq:=Lib.hid hKq
   go_simp
   exact hKq.out _ _ ⟨_,rfl,BxS.size hE,#[.int .i64 0,.slice none 0 0],rfl,Box.new _ _ _⟩ (BxS.of_ext ((Ext.refl _).alloc _))
  ·intro a w hE hd ho
   refine .inl ⟨rfl,?_⟩
   intro Kq hKq
   have hF : Ext w0 w:=Ext.trans ((Ext.refl _).drew) (BxS.to_ext hE (Nat.le_refl _))
   clear m0 m1 m2 m3 m4 m5 a0 a1 a2 k0 k1
   clear hd ho
   replace hKq:=Lib.hid hKq
   go_simp
   exact hKq.out _ _ ⟨_,rfl,BxS.size hE,#[.int .i64 0,.bool false,.slice none 0 0],rfl,Box.new _ _ _⟩ (BxS.of_ext ((Ext.refl _).alloc _))
  ·intro a w hE hd ho
   refine .inl ⟨rfl,?_⟩
   intro Kq hKq
   have hF : Ext w0 w:=Ext.trans ((Ext.refl _).drew) (BxS.to_ext hE (Nat.le_refl _))
   obtain ⟨bq,eq,hNb,vs0,hv0,hbx⟩ : ∃ b,a.eval (.tmp 5) = .pointer (some ⟨b,0,none⟩)∧w0.drew.heap.size≤b∧BoxT 68 2 w b:=hd 11 (by kernel_rfl)
   have eq0:=eq
   rw [eval_tmp] at eq
   have hBT : BoxT 68 2 w bq:=⟨vs0,hv0,hbx⟩
   obtain ⟨u0,u1,rfl⟩ : ∃ u0 u1,vs0=#[u0,u1]:=by match vs0,hv0 with | ⟨[u0,u1]⟩,_=>exact ⟨u0,u1,rfl⟩
   have bc0 : World.cell? w ⟨bq,0,none⟩=some u0:=hbx.cell 0
   have bf0:=hbx.frozen 0
   have bc1 : World.cell? w ⟨bq,1,none⟩=some u1:=hbx.cell 1
   have bf1:=hbx.frozen 1
   have hbl:=hbx.lt
   replace hBT:=Lib.hid hBT;replace hbx:=Lib.hid hbx;replace eq0:=Lib.hid eq0
   have e13 : a.eval (.tmp 13) = .agg #[.int .i64 snum,.slice sa scells.length sc]:=hd 4 (by kernel_rfl)
   rw [eval_tmp] at e13
   clear m0 m1 m2 m3 m4 m5 a0 a1 a2 k0 k1
   clear hd ho
   replace hKq:=Lib.hid hKq
   go_simp
   have hEb : ExtBut (· = bq) w (World.setCell (World.setCell w ⟨bq,0,none⟩ (.int .i64 snum)) ⟨bq,1,none⟩ (.slice sa scells.length sc)):=by (repeat' with_reducible first | exact ExtBut.refl _ _ | refine ExtBut.dr ?_ | refine ExtBut.sc ?_ ?_ | fail) <;> dsimp only <;> omega
   have hBx : Box (World.setCell (World.setCell w ⟨bq,0,none⟩ (.int .i64 snum)) ⟨bq,1,none⟩ (.slice sa scells.length sc)) bq 68 #[.int .i64 snum,.slice sa scells.length sc]:=(Box.set (Box.set hbx.out 0 (.int .i64 snum)) 1 (.slice sa scells.length sc))
   have hRR : (BxS w0.drew.heap.size [(68,2),(74,3)] (XS35 (#[.int .i64 snum,.slice sa scells.length sc]) (#[.int .i64 anum,.bool alive,.slice ca acells.length cc]))) w (World.setCell (World.setCell w ⟨bq,0,none⟩ (.int .i64 snum)) ⟨bq,1,none⟩ (.slice sa scells.length sc)):=BxS.but hEb (by simp) hBT.out hNb rfl hBx ⟨fun _=>rfl,fun e=>absurd e (by decide)⟩
   exact hKq.out undef (World.setCell (World.setCell w ⟨bq,0,none⟩ (.int .i64 snum)) ⟨bq,1,none⟩ (.slice sa scells.length sc)) ⟨bq,eq0.out,hNb,hBx⟩ hRR
  ·intro a w hE hd ho
   refine .inl ⟨rfl,?_⟩
   intro Kq hKq
   have hF : Ext w0 w:=Ext.trans ((Ext.refl _).drew) (BxS.to_ext hE (Nat.le_refl _))
   obtain ⟨bq,eq,hNb,vs0,hv0,hbx⟩ : ∃ b,a.eval (.tmp 6) = .pointer (some ⟨b,0,none⟩)∧w0.drew.heap.size≤b∧BoxT 74 3 w b:=hd 12 (by kernel_rfl)
   have eq0:=eq
   rw [eval_tmp] at eq
   have hBT : BoxT 74 3 w bq:=⟨vs0,hv0,hbx⟩
   obtain ⟨u0,u1,u2,rfl⟩ : ∃ u0 u1 u2,vs0=#[u0,u1,u2]:=by match vs0,hv0 with | ⟨[u0,u1,u2]⟩,_=>exact ⟨u0,u1,u2,rfl⟩
   have bc0 : World.cell? w ⟨bq,0,none⟩=some u0:=hbx.cell 0
   have bf0:=hbx.frozen 0
   have bc1 : World.cell? w ⟨bq,1,none⟩=some u1:=hbx.cell 1
   have bf1:=hbx.frozen 1
   have bc2 : World.cell? w ⟨bq,2,none⟩=some u2:=hbx.cell 2
   have bf2:=hbx.frozen 2
   have hbl:=hbx.lt
   replace hBT:=Lib.hid hBT;replace hbx:=Lib.hid hbx;replace eq0:=Lib.hid eq0
   have e19 : a.eval (.tmp 19) = .agg #[.int .i64 anum,.bool alive,.slice ca acells.length cc]:=hd 10 (by kernel_rfl)
   rw [eval_tmp] at e19
   clear m0 m1 m2 m3 m4 m5 a0 a1 a2 k0 k1
   clear hd ho
   replace hKq:=Lib.hid hKq
   go_simp
   have hEb : ExtBut (· = bq) w (World.setCell (World.setCell (World.setCell w ⟨bq,0,none⟩ (.int .i64 anum)) ⟨bq,1,none⟩ (.bool alive)) ⟨bq,2,none⟩ (.slice ca acells.length cc)):=by (repeat' with_reducible first | exact ExtBut.refl _ _ | refine ExtBut.dr ?_ | refine ExtBut.sc ?_ ?_ | fail) <;> dsimp only <;> omega
   have hBx : Box (World.setCell (World.setCell (World.setCell w ⟨bq,0,none⟩ (.int .i64 anum)) ⟨bq,1,none⟩ (.bool alive)) ⟨bq,2,none⟩ (.slice ca acells.length cc)) bq 74 #[.int .i64 anum,.bool alive,.slice ca acells.length cc]:=(Box.set (Box.set (Box.set hbx.out 0 (.int .i64 anum)) 1 (.bool alive)) 2 (.slice ca acells.length cc))
   have hRR : (BxS w0.drew.heap.size [(68,2),(74,3)] (XS35 (#[.int .i64 snum,.slice sa scells.length sc]) (#[.int .i64 anum,.bool alive,.slice ca acells.length cc]))) w (World.setCell (World.setCell (World.setCell w ⟨bq,0,none⟩ (.int .i64 anum)) ⟨bq,1,none⟩ (.bool alive)) ⟨bq,2,none⟩ (.slice ca acells.length cc)):=BxS.but hEb (by simp) hBT.out hNb rfl hBx ⟨fun e=>absurd e (by decide),fun _=>rfl⟩
   exact hKq.out undef (World.setCell (World.setCell (World.setCell w ⟨bq,0,none⟩ (.int .i64 anum)) ⟨bq,1,none⟩ (.bool alive)) ⟨bq,2,none⟩ (.slice ca acells.length cc)) ⟨bq,eq0.out,hNb,hBx⟩ hRR
 ·intro vals Ac wq hA hE hv hsv
  have hF : Ext w0 wq:=Ext.trans ((Ext.refl _).drew) (BxS.to_ext hE (Nat.le_refl _))
  obtain ⟨bx,ex,hNx,hBx⟩ : ∃ b,vals 13 = .pointer (some ⟨b,0,none⟩)∧w0.drew.heap.size≤b∧Box wq b 68 #[.int .i64 snum,.slice sa scells.length sc]:=hv 13 (by decide)
  obtain ⟨ba,ea,hNa,hBa⟩ : ∃ b,vals 14 = .pointer (some ⟨b,0,none⟩)∧w0.drew.heap.size≤b∧Box wq b 74 #[.int .i64 anum,.bool alive,.slice ca acells.length cc]:=hv 14 (by decide)
  have e5 : vals 11 = .pointer (some ⟨bx,0,none⟩):=((hsv 11).trans (hsv 13).symm).trans ex
  have e6 : vals 12 = .pointer (some ⟨ba,0,none⟩):=((hsv 12).trans (hsv 14).symm).trans ea
  clear hv hsv hE ex ea
  subst hA
  simp only [putAll]
  go_simp
  try rw [e5,e6]
  clear e5 e6
  clear hNx hNa a0 a1 a2 k0 k1 m0 m1 m2 m3 m4 m5
  replace bM:=bM.ext hF
  have hG:=Ext.trans hE0 hF
  replace hks:=Lib.hid (hks.out.ext hF)
  clear hF hE0
  cases h1 : snum == anum
  ·have g1 : (snum != anum)=true:=by rw [bne,h1];rfl
   replace h1:=Lib.hid h1
   have m0 : World.cell? wq ⟨MB,0,none⟩=some (.slice (some ⟨b,off,none⟩) A.length ac):=bM.cell 0
   have m1 : World.cell? wq ⟨MB,1,none⟩=some (.int .i64 nx):=bM.cell 1
   have m2 : World.cell? wq ⟨MB,2,none⟩=some (.slice (some ⟨kb,ko,none⟩) K.length kc):=bM.cell 2
   have m3 : World.cell? wq ⟨MB,3,none⟩=some (.slice ra R.length rc):=bM.cell 3
   have m4 : World.cell? wq ⟨MB,4,none⟩=some (.int .i64 tg):=bM.cell 4
   have m5 : World.cell? wq ⟨MB,5,none⟩=some (.int .i64 cl):=bM.cell 5
   have x0 : World.cell? wq ⟨bx,0,none⟩=some (.int .i64 snum):=hBx.cell 0
   have x1 : World.cell? wq ⟨bx,1,none⟩=some (.slice sa scells.length sc):=hBx.cell 1
   have y0 : World.cell? wq ⟨ba,0,none⟩=some (.int .i64 anum):=hBa.cell 0
   have y1 : World.cell? wq ⟨ba,1,none⟩=some (.bool alive):=hBa.cell 1
   have y2 : World.cell? wq ⟨ba,2,none⟩=some (.slice ca acells.length cc):=hBa.cell 2
   go_wp2
   go_ret
   rw [show rowM tg cl ⟨snum,scells⟩ ⟨anum,alive,acells⟩=false by simp only [rowM,h1.out,Bool.false_and]]
   exact ⟨rfl,hG⟩
  have g1 : (snum != anum)=false:=by rw [bne,h1];rfl
  replace h1:=Lib.hid h1
  cases h2 : scells.length == acells.length
  ·have g2 : (scells.length != acells.length)=true:=by rw [bne,h2];rfl
   have g3 : ((scells.length : Int) != (acells.length : Int))=true:=by simp only [bne_iff_ne,ne_eq,Int.natCast_inj];simpa using h2
   replace h2:=Lib.hid h2
   have m0 : World.cell? wq ⟨MB,0,none⟩=some (.slice (some ⟨b,off,none⟩) A.length ac):=bM.cell 0
   have m1 : World.cell? wq ⟨MB,1,none⟩=some (.int .i64 nx):=bM.cell 1
   have m2 : World.cell? wq ⟨MB,2,none⟩=some (.slice (some ⟨kb,ko,none⟩) K.length kc):=bM.cell 2
   have m3 : World.cell? wq ⟨MB,3,none⟩=some (.slice ra R.length rc):=bM.cell 3
   have m4 : World.cell? wq ⟨MB,4,none⟩=some (.int .i64 tg):=bM.cell 4
   have m5 : World.cell? wq ⟨MB,5,none⟩=some (.int .i64 cl):=bM.cell 5
   have x0 : World.cell? wq ⟨bx,0,none⟩=some (.int .i64 snum):=hBx.cell 0
   have x1 : World.cell? wq ⟨bx,1,none⟩=some (.slice sa scells.length sc):=hBx.cell 1
   have y0 : World.cell? wq ⟨ba,0,none⟩=some (.int .i64 anum):=hBa.cell 0
   have y1 : World.cell? wq ⟨ba,1,none⟩=some (.bool alive):=hBa.cell 1
   have y2 : World.cell? wq ⟨ba,2,none⟩=some (.slice ca acells.length cc):=hBa.cell 2
   go_wp2
   go_ret
   rw [show rowM tg cl ⟨snum,scells⟩ ⟨anum,alive,acells⟩=false by simp only [rowM,h2.out,Bool.false_and,Bool.and_false]]
   exact ⟨rfl,hG⟩
  have g2 : (scells.length != acells.length)=false:=by rw [bne,h2];rfl
  have g3 : ((scells.length : Int) != (acells.length : Int))=false:=by have:=eq_of_beq h2;rw [this];simp
  replace h2:=Lib.hid h2
  cases h3 : okK ⟨snum,scells⟩
  ·have hs3 : Hid (stkErr ⟨snum,scells⟩=8):=Hid.mk (by simp [stkErr,h3])
   replace h3:=Lib.hid h3
   have m0 : World.cell? wq ⟨MB,0,none⟩=some (.slice (some ⟨b,off,none⟩) A.length ac):=bM.cell 0
   have m1 : World.cell? wq ⟨MB,1,none⟩=some (.int .i64 nx):=bM.cell 1
   have m2 : World.cell? wq ⟨MB,2,none⟩=some (.slice (some ⟨kb,ko,none⟩) K.length kc):=bM.cell 2
   have m3 : World.cell? wq ⟨MB,3,none⟩=some (.slice ra R.length rc):=bM.cell 3
   have m4 : World.cell? wq ⟨MB,4,none⟩=some (.int .i64 tg):=bM.cell 4
   have m5 : World.cell? wq ⟨MB,5,none⟩=some (.int .i64 cl):=bM.cell 5
   have x0 : World.cell? wq ⟨bx,0,none⟩=some (.int .i64 snum):=hBx.cell 0
   have x1 : World.cell? wq ⟨bx,1,none⟩=some (.slice sa scells.length sc):=hBx.cell 1
   have y0 : World.cell? wq ⟨ba,0,none⟩=some (.int .i64 anum):=hBa.cell 0
   have y1 : World.cell? wq ⟨ba,1,none⟩=some (.bool alive):=hBa.cell 1
   have y2 : World.cell? wq ⟨ba,2,none⟩=some (.slice ca acells.length cc):=hBa.cell 2
   go_wp2_with fail
   refine (ref33_Check hks.out).mono ?_
   rintro e w3 ⟨rfl,hE3⟩
   rw [hs3.out]
   go_wp2
   go_ret
   rw [show rowM tg cl ⟨snum,scells⟩ ⟨anum,alive,acells⟩=false by simp only [rowM,h3.out,Bool.false_and,Bool.and_false]]
   exact ⟨rfl,Ext.trans hG hE3⟩
  have hs3 : Hid (stkErr ⟨snum,scells⟩=0):=Hid.mk (by simp [stkErr,h3])
  have hc2 : scells.length≤2 ∧ ∀ s ∈ scells,s.length≤600:=okK_bounds h3
  replace h3:=Lib.hid h3
  replace hc2:=Lib.hid hc2
  have m0 : World.cell? wq ⟨MB,0,none⟩=some (.slice (some ⟨b,off,none⟩) A.length ac):=bM.cell 0
  have m1 : World.cell? wq ⟨MB,1,none⟩=some (.int .i64 nx):=bM.cell 1
  have m2 : World.cell? wq ⟨MB,2,none⟩=some (.slice (some ⟨kb,ko,none⟩) K.length kc):=bM.cell 2
  have m3 : World.cell? wq ⟨MB,3,none⟩=some (.slice ra R.length rc):=bM.cell 3
  have m4 : World.cell? wq ⟨MB,4,none⟩=some (.int .i64 tg):=bM.cell 4
  have m5 : World.cell? wq ⟨MB,5,none⟩=some (.int .i64 cl):=bM.cell 5
  have x0 : World.cell? wq ⟨bx,0,none⟩=some (.int .i64 snum):=hBx.cell 0
  have x1 : World.cell? wq ⟨bx,1,none⟩=some (.slice sa scells.length sc):=hBx.cell 1
  have y0 : World.cell? wq ⟨ba,0,none⟩=some (.int .i64 anum):=hBa.cell 0
  have y1 : World.cell? wq ⟨ba,1,none⟩=some (.bool alive):=hBa.cell 1
  have y2 : World.cell? wq ⟨ba,2,none⟩=some (.slice ca acells.length cc):=hBa.cell 2
  go_wp2_with fail
  refine (ref33_Check hks.out).mono ?_
  rintro e w3 ⟨rfl,hE3⟩
  rw [hs3.out]
  clear m0 m1 m2 m3 m4 m5 x0 x1 y0 y1 y2
  replace bM:=bM.ext hE3;replace hBx:=hBx.ext hE3;replace hBa:=hBa.ext hE3;replace hG:=hG.trans hE3;replace hks:=Lib.hid (hks.out.ext hE3)
  clear hE3
  have m0 : World.cell? w3 ⟨MB,0,none⟩=some (.slice (some ⟨b,off,none⟩) A.length ac):=bM.cell 0
  have m1 : World.cell? w3 ⟨MB,1,none⟩=some (.int .i64 nx):=bM.cell 1
  have m2 : World.cell? w3 ⟨MB,2,none⟩=some (.slice (some ⟨kb,ko,none⟩) K.length kc):=bM.cell 2
  have m3 : World.cell? w3 ⟨MB,3,none⟩=some (.slice ra R.length rc):=bM.cell 3
  have m4 : World.cell? w3 ⟨MB,4,none⟩=some (.int .i64 tg):=bM.cell 4
  have m5 : World.cell? w3 ⟨MB,5,none⟩=some (.int .i64 cl):=bM.cell 5
  have x0 : World.cell? w3 ⟨bx,0,none⟩=some (.int .i64 snum):=hBx.cell 0
  have x1 : World.cell? w3 ⟨bx,1,none⟩=some (.slice sa scells.length sc):=hBx.cell 1
  have y0 : World.cell? w3 ⟨ba,0,none⟩=some (.int .i64 anum):=hBa.cell 0
  have y1 : World.cell? w3 ⟨ba,1,none⟩=some (.bool alive):=hBa.cell 1
  have y2 : World.cell? w3 ⟨ba,2,none⟩=some (.slice ca acells.length cc):=hBa.cell 2
  go_wp2
  clear m0 m1 m2 m3 m4 m5 x0 x1 y0 y1 y2
  go_loopw [7,8] (fun kv _ wr => ∃ k : Nat,k≤scells.length∧kv = .int .i64 k∧(∀ j s,j < k→scells[j]? = some s→s.all (fun it=>alive && itM tg cl it)=true)∧Ext w3 wr) (fun kv _ _=>scells.length - (intOf kv).toNat)
  case atStart=>exact ⟨0,Nat.zero_le _,rfl,fun j _ h=>by omega,Ext.refl _⟩
  case round =>
   obtain ⟨k,hk,rfl,hgood,hY⟩:=hrel
   obtain ⟨wk,hwk⟩ : ∃ z,wr=z:=⟨_,rfl⟩
   rw [hwk] at hY ⊢
   clear hwk
   replace bM:=bM.ext hY;replace hBx:=hBx.ext hY;replace hBa:=hBa.ext hY
   by_cases hkl : k < scells.length
   ·have hkl' : decide (k < scells.length)=true:=decide_eq_true hkl
    obtain ⟨sk,hsk⟩ : ∃ x,scells[k]? = some x:=⟨scells[k],by simp [hkl]⟩
    obtain ⟨ub,uo,us,rfl,hub,d0,hit⟩:=(hks.out.ext hY).cell hsk
    obtain ⟨ia,ic,rfl,hic,hicm,-⟩:=hit.form
    unfold maxLen at hicm
    have hk0 : (0 : Int)≤(k : Int):=by omega
    have hk1 : (k : Int) < (scells.length : Int):=by omega
    have hrb : (sk.all (fun it=>alive && itM tg cl it))=false→rowM tg cl ⟨snum,scells⟩ ⟨anum,alive,acells⟩=false:=fun h=>by
     have hm : sk ∈ scells:=List.mem_of_getElem? hsk
     have : scells.flatten.all (fun it=>alive && itM tg cl it)=false:=by
      rw [Bool.eq_false_iff]
      intro hc
      obtain ⟨it,h6,h7⟩:=List.all_eq_false.1 h
      exact h7 (List.all_eq_true.1 hc it (List.mem_flatten.2 ⟨sk,hm,h6⟩))
     simp only [rowM,this,Bool.and_false]
    have hnext : sk.all (fun it=>alive && itM tg cl it)=true → ∀ j s,j < k+1→scells[j]? = some s→s.all (fun it=>alive && itM tg cl it)=true:=fun h j s hj hs=>by
     by_cases e : j=k
     ·subst e;rw [hsk] at hs;cases hs;exact h
     ·exact hgood j s (by omega) hs
    replace hrb:=Lib.hid hrb;replace hnext:=Lib.hid hnext;replace hsk:=Lib.hid hsk;replace hgood:=Lib.hid hgood;replace hit:=Lib.hid hit
    have hG:=hG.trans hY
    clear hkl
    by_cases hne : sk.length=0
    ·cases alive
     ·skip
      have q1 : decide (0 < sk.length)=false:=decide_eq_false (by omega)
      have q2 : decide ((0 : Int) < (sk.length : Int))=false:=decide_eq_false (by omega)
      have m0 : World.cell? wk ⟨MB,0,none⟩=some (.slice (some ⟨b,off,none⟩) A.length ac):=bM.cell 0
      have m1 : World.cell? wk ⟨MB,1,none⟩=some (.int .i64 nx):=bM.cell 1
      have m2 : World.cell? wk ⟨MB,2,none⟩=some (.slice (some ⟨kb,ko,none⟩) K.length kc):=bM.cell 2
      have m3 : World.cell? wk ⟨MB,3,none⟩=some (.slice ra R.length rc):=bM.cell 3
      have m4 : World.cell? wk ⟨MB,4,none⟩=some (.int .i64 tg):=bM.cell 4
      have m5 : World.cell? wk ⟨MB,5,none⟩=some (.int .i64 cl):=bM.cell 5
      have x0 : World.cell? wk ⟨bx,0,none⟩=some (.int .i64 snum):=hBx.cell 0
      have x1 : World.cell? wk ⟨bx,1,none⟩=some (.slice (some ⟨ub,uo,none⟩) scells.length sc):=hBx.cell 1
      have y0 : World.cell? wk ⟨ba,0,none⟩=some (.int .i64 anum):=hBa.cell 0
      have y1 : World.cell? wk ⟨ba,1,none⟩=some (.bool false):=hBa.cell 1
      have y2 : World.cell? wk ⟨ba,2,none⟩=some (.slice ca acells.length cc):=hBa.cell 2
      replace hne:=Lib.hid hne
      go_wp2
      clear m0 m1 m2 m3 m4 m5 x0 x1 y0 y1 y2
      clear q1 q2
      go_loopw [8] (fun nv wr => ∃ n : Nat,n≤sk.length∧nv = .int .i64 n∧(sk.take n).all (fun it=>false && itM tg cl it)=true∧Ext wk wr) (fun nv _=>sk.length - (intOf nv).toNat)
      case atStart=>exact ⟨0,Nat.zero_le _,rfl,rfl,Ext.refl _⟩
      case round =>
       obtain ⟨n,hn,rfl,hgn,hZ⟩:=hrel
       obtain ⟨wn,hwn⟩ : ∃ z,wr=z:=⟨_,rfl⟩
       rw [hwn] at hZ ⊢
       clear hwn
       replace bM:=bM.ext hZ;replace hBx:=hBx.ext hZ;replace hBa:=hBa.ext hZ
       have hG:=hG.trans hZ
       replace d0:=hZ.cell d0
       replace hit:=Lib.hid (hit.out.ext hZ)
       by_cases hnl : n < sk.length
       ·exact absurd hnl (by have:=hne.out;omega)
       ·have hne2 : n=sk.length:=by omega
        subst hne2
        have hnl' : decide (sk.length < sk.length)=false:=decide_eq_false (by omega)
        rw [List.take_length] at hgn
        have hnx:=Lib.hid (hnext.out hgn)
        replace hgn:=Lib.hid hgn
        clear hnl hn
        have m0 : World.cell? wn ⟨MB,0,none⟩=some (.slice (some ⟨b,off,none⟩) A.length ac):=bM.cell 0
        have m1 : World.cell? wn ⟨MB,1,none⟩=some (.int .i64 nx):=bM.cell 1
        have m2 : World.cell? wn ⟨MB,2,none⟩=some (.slice (some ⟨kb,ko,none⟩) K.length kc):=bM.cell 2
        have m3 : World.cell? wn ⟨MB,3,none⟩=some (.slice ra R.length rc):=bM.cell 3
        have m4 : World.cell? wn ⟨MB,4,none⟩=some (.int .i64 tg):=bM.cell 4
        have m5 : World.cell? wn ⟨MB,5,none⟩=some (.int .i64 cl):=bM.cell 5
        have x0 : World.cell? wn ⟨bx,0,none⟩=some (.int .i64 snum):=hBx.cell 0
        have x1 : World.cell? wn ⟨bx,1,none⟩=some (.slice (some ⟨ub,uo,none⟩) scells.length sc):=hBx.cell 1
        have y0 : World.cell? wn ⟨ba,0,none⟩=some (.int .i64 anum):=hBa.cell 0
        have y1 : World.cell? wn ⟨ba,1,none⟩=some (.bool false):=hBa.cell 1
        have y2 : World.cell? wn ⟨ba,2,none⟩=some (.slice ca acells.length cc):=hBa.cell 2
        go_wp2
        go_roundw
        case rel=>exact ⟨k+1,by omega,by go_num,hnx.out,Ext.trans hY hZ⟩
        case measure=>simp [intOf];omega
     ·skip
      have q1 : decide (0 < sk.length)=false:=decide_eq_false (by omega)
      have q2 : decide ((0 : Int) < (sk.length : Int))=false:=decide_eq_false (by omega)
      have m0 : World.cell? wk ⟨MB,0,none⟩=some (.slice (some ⟨b,off,none⟩) A.length ac):=bM.cell 0
      have m1 : World.cell? wk ⟨MB,1,none⟩=some (.int .i64 nx):=bM.cell 1
      have m2 : World.cell? wk ⟨MB,2,none⟩=some (.slice (some ⟨kb,ko,none⟩) K.length kc):=bM.cell 2
      have m3 : World.cell? wk ⟨MB,3,none⟩=some (.slice ra R.length rc):=bM.cell 3
      have m4 : World.cell? wk ⟨MB,4,none⟩=some (.int .i64 tg):=bM.cell 4
      have m5 : World.cell? wk ⟨MB,5,none⟩=some (.int .i64 cl):=bM.cell 5
      have x0 : World.cell? wk ⟨bx,0,none⟩=some (.int .i64 snum):=hBx.cell 0
      have x1 : World.cell? wk ⟨bx,1,none⟩=some (.slice (some ⟨ub,uo,none⟩) scells.length sc):=hBx.cell 1
      have y0 : World.cell? wk ⟨ba,0,none⟩=some (.int .i64 anum):=hBa.cell 0
      have y1 : World.cell? wk ⟨ba,1,none⟩=some (.bool true):=hBa.cell 1
      have y2 : World.cell? wk ⟨ba,2,none⟩=some (.slice ca acells.length cc):=hBa.cell 2
      replace hne:=Lib.hid hne
      go_wp2
      clear m0 m1 m2 m3 m4 m5 x0 x1 y0 y1 y2
      clear q1 q2
      go_loopw [8] (fun nv wr => ∃ n : Nat,n≤sk.length∧nv = .int .i64 n∧(sk.take n).all (fun it=>true && itM tg cl it)=true∧Ext wk wr) (fun nv _=>sk.length - (intOf nv).toNat)
      case atStart=>exact ⟨0,Nat.zero_le _,rfl,rfl,Ext.refl _⟩
      case round =>
       obtain ⟨n,hn,rfl,hgn,hZ⟩:=hrel
       obtain ⟨wn,hwn⟩ : ∃ z,wr=z:=⟨_,rfl⟩
       rw [hwn] at hZ ⊢
       clear hwn
       replace bM:=bM.ext hZ;replace hBx:=hBx.ext hZ;replace hBa:=hBa.ext hZ
       have hG:=hG.trans hZ
       replace d0:=hZ.cell d0
       replace hit:=Lib.hid (hit.out.ext hZ)
       by_cases hnl : n < sk.length
       ·exact absurd hnl (by have:=hne.out;omega)
       ·have hne2 : n=sk.length:=by omega
        subst hne2
        have hnl' : decide (sk.length < sk.length)=false:=decide_eq_false (by omega)
        rw [List.take_length] at hgn
        have hnx:=Lib.hid (hnext.out hgn)
        replace hgn:=Lib.hid hgn
        clear hnl hn
        have m0 : World.cell? wn ⟨MB,0,none⟩=some (.slice (some ⟨b,off,none⟩) A.length ac):=bM.cell 0
        have m1 : World.cell? wn ⟨MB,1,none⟩=some (.int .i64 nx):=bM.cell 1
        have m2 : World.cell? wn ⟨MB,2,none⟩=some (.slice (some ⟨kb,ko,none⟩) K.length kc):=bM.cell 2
        have m3 : World.cell? wn ⟨MB,3,none⟩=some (.slice ra R.length rc):=bM.cell 3
        have m4 : World.cell? wn ⟨MB,4,none⟩=some (.int .i64 tg):=bM.cell 4
        have m5 : World.cell? wn ⟨MB,5,none⟩=some (.int .i64 cl):=bM.cell 5
        have x0 : World.cell? wn ⟨bx,0,none⟩=some (.int .i64 snum):=hBx.cell 0
        have x1 : World.cell? wn ⟨bx,1,none⟩=some (.slice (some ⟨ub,uo,none⟩) scells.length sc):=hBx.cell 1
        have y0 : World.cell? wn ⟨ba,0,none⟩=some (.int .i64 anum):=hBa.cell 0
        have y1 : World.cell? wn ⟨ba,1,none⟩=some (.bool true):=hBa.cell 1
        have y2 : World.cell? wn ⟨ba,2,none⟩=some (.slice ca acells.length cc):=hBa.cell 2
        go_wp2
        go_roundw
        case rel=>exact ⟨k+1,by omega,by go_num,hnx.out,Ext.trans hY hZ⟩
        case measure=>simp [intOf];omega
    ·cases alive
     ·skip
      have q1 : decide (0 < sk.length)=true:=decide_eq_true (by omega)
      have q2 : decide ((0 : Int) < (sk.length : Int))=true:=decide_eq_true (by omega)
      have m0 : World.cell? wk ⟨MB,0,none⟩=some (.slice (some ⟨b,off,none⟩) A.length ac):=bM.cell 0
      have m1 : World.cell? wk ⟨MB,1,none⟩=some (.int .i64 nx):=bM.cell 1
      have m2 : World.cell? wk ⟨MB,2,none⟩=some (.slice (some ⟨kb,ko,none⟩) K.length kc):=bM.cell 2
      have m3 : World.cell? wk ⟨MB,3,none⟩=some (.slice ra R.length rc):=bM.cell 3
      have m4 : World.cell? wk ⟨MB,4,none⟩=some (.int .i64 tg):=bM.cell 4
      have m5 : World.cell? wk ⟨MB,5,none⟩=some (.int .i64 cl):=bM.cell 5
      have x0 : World.cell? wk ⟨bx,0,none⟩=some (.int .i64 snum):=hBx.cell 0
      have x1 : World.cell? wk ⟨bx,1,none⟩=some (.slice (some ⟨ub,uo,none⟩) scells.length sc):=hBx.cell 1
      have y0 : World.cell? wk ⟨ba,0,none⟩=some (.int .i64 anum):=hBa.cell 0
      have y1 : World.cell? wk ⟨ba,1,none⟩=some (.bool false):=hBa.cell 1
      have y2 : World.cell? wk ⟨ba,2,none⟩=some (.slice ca acells.length cc):=hBa.cell 2
      have hal2 : sk.all (fun it=>false && itM tg cl it)=false:=by
       cases sk with
       | nil=>simp at hne
       | cons x l=>rfl
      replace hne:=Lib.hid hne;replace hal2:=Lib.hid hal2
      go_wp2
      go_ret
      rw [hrb.out hal2.out]
      exact ⟨rfl,hG⟩
     ·skip
      have q1 : decide (0 < sk.length)=true:=decide_eq_true (by omega)
      have q2 : decide ((0 : Int) < (sk.length : Int))=true:=decide_eq_true (by omega)
      have m0 : World.cell? wk ⟨MB,0,none⟩=some (.slice (some ⟨b,off,none⟩) A.length ac):=bM.cell 0
      have m1 : World.cell? wk ⟨MB,1,none⟩=some (.int .i64 nx):=bM.cell 1
      have m2 : World.cell? wk ⟨MB,2,none⟩=some (.slice (some ⟨kb,ko,none⟩) K.length kc):=bM.cell 2
      have m3 : World.cell? wk ⟨MB,3,none⟩=some (.slice ra R.length rc):=bM.cell 3
      have m4 : World.cell? wk ⟨MB,4,none⟩=some (.int .i64 tg):=bM.cell 4
      have m5 : World.cell? wk ⟨MB,5,none⟩=some (.int .i64 cl):=bM.cell 5
      have x0 : World.cell? wk ⟨bx,0,none⟩=some (.int .i64 snum):=hBx.cell 0
      have x1 : World.cell? wk ⟨bx,1,none⟩=some (.slice (some ⟨ub,uo,none⟩) scells.length sc):=hBx.cell 1
      have y0 : World.cell? wk ⟨ba,0,none⟩=some (.int .i64 anum):=hBa.cell 0
      have y1 : World.cell? wk ⟨ba,1,none⟩=some (.bool true):=hBa.cell 1
      have y2 : World.cell? wk ⟨ba,2,none⟩=some (.slice ca acells.length cc):=hBa.cell 2
      replace hne:=Lib.hid hne
      go_wp2
      clear m0 m1 m2 m3 m4 m5 x0 x1 y0 y1 y2
      clear q1 q2
      go_loopw [8] (fun nv wr => ∃ n : Nat,n≤sk.length∧nv = .int .i64 n∧(sk.take n).all (fun it=>true && itM tg cl it)=true∧Ext wk wr) (fun nv _=>sk.length - (intOf nv).toNat)
      case atStart=>exact ⟨0,Nat.zero_le _,rfl,rfl,Ext.refl _⟩
      case round =>
       obtain ⟨n,hn,rfl,hgn,hZ⟩:=hrel
       obtain ⟨wn,hwn⟩ : ∃ z,wr=z:=⟨_,rfl⟩
       rw [hwn] at hZ ⊢
       clear hwn
       replace bM:=bM.ext hZ;replace hBx:=hBx.ext hZ;replace hBa:=hBa.ext hZ
       have hG:=hG.trans hZ
       replace d0:=hZ.cell d0
       replace hit:=Lib.hid (hit.out.ext hZ)
       by_cases hnl : n < sk.length
       ·have hnl' : decide (n < sk.length)=true:=decide_eq_true hnl
        have hn0 : (0 : Int)≤(n : Int):=by omega
        have hn1 : (n : Int) < (sk.length : Int):=by omega
        obtain ⟨it,hitn⟩ : ∃ x,sk[n]? = some x:=⟨sk[n],by simp [hnl]⟩
        obtain ⟨vb,vo,rfl,hvb,i0,i1,i2⟩:=hit.out.cell hitn
        obtain ⟨ip,itg,icl⟩:=it
        dsimp only at i0 i1 i2
        have hnb : (true && itM tg cl ⟨ip,itg,icl⟩)=false→sk.all (fun it=>true && itM tg cl it)=false:=fun h=>by
         rw [Bool.eq_false_iff]
         intro hc
         have:=List.all_eq_true.1 hc _ (List.mem_of_getElem? hitn)
         rw [h] at this
         cases this
        have hnn : (true && itM tg cl ⟨ip,itg,icl⟩)=true→(sk.take (n+1)).all (fun it=>true && itM tg cl it)=true:=fun h=>by
         rw [List.take_add_one,hitn,List.all_append,hgn]
         simpa using h
        replace hnb:=Lib.hid hnb;replace hnn:=Lib.hid hnn;replace hitn:=Lib.hid hitn;replace hgn:=Lib.hid hgn
        clear hnl
        cases t1 : decide (itg < tg)
        ·have u1 : decide (tg≤itg)=true:=decide_eq_true (by have:=of_decide_eq_false t1;omega)
         replace t1:=Lib.hid t1
         have m0 : World.cell? wn ⟨MB,0,none⟩=some (.slice (some ⟨b,off,none⟩) A.length ac):=bM.cell 0
         have m1 : World.cell? wn ⟨MB,1,none⟩=some (.int .i64 nx):=bM.cell 1
         have m2 : World.cell? wn ⟨MB,2,none⟩=some (.slice (some ⟨kb,ko,none⟩) K.length kc):=bM.cell 2
         have m3 : World.cell? wn ⟨MB,3,none⟩=some (.slice ra R.length rc):=bM.cell 3
         have m4 : World.cell? wn ⟨MB,4,none⟩=some (.int .i64 tg):=bM.cell 4
         have m5 : World.cell? wn ⟨MB,5,none⟩=some (.int .i64 cl):=bM.cell 5
         have x0 : World.cell? wn ⟨bx,0,none⟩=some (.int .i64 snum):=hBx.cell 0
         have x1 : World.cell? wn ⟨bx,1,none⟩=some (.slice (some ⟨ub,uo,none⟩) scells.length sc):=hBx.cell 1
         have y0 : World.cell? wn ⟨ba,0,none⟩=some (.int .i64 anum):=hBa.cell 0
         have y1 : World.cell? wn ⟨ba,1,none⟩=some (.bool true):=hBa.cell 1
         have y2 : World.cell? wn ⟨ba,2,none⟩=some (.slice ca acells.length cc):=hBa.cell 2
         go_wp2
         go_quiet (fail)
         go_wp2
         go_ret
         rw [hrb.out (hnb.out (by simp only [itM,t1.out,Bool.false_and,Bool.and_false]))]
         exact ⟨rfl,hG.trans ((Ext.refl _).drewN _)⟩
        have u1 : decide (tg≤itg)=false:=decide_eq_false (by have:=of_decide_eq_true t1;omega)
        replace t1:=Lib.hid t1
        cases t2 : decide (icl < cl)
        ·have u2 : decide (cl≤icl)=true:=decide_eq_true (by have:=of_decide_eq_false t2;omega)
         replace t2:=Lib.hid t2
         have m0 : World.cell? wn ⟨MB,0,none⟩=some (.slice (some ⟨b,off,none⟩) A.length ac):=bM.cell 0
         have m1 : World.cell? wn ⟨MB,1,none⟩=some (.int .i64 nx):=bM.cell 1
         have m2 : World.cell? wn ⟨MB,2,none⟩=some (.slice (some ⟨kb,ko,none⟩) K.length kc):=bM.cell 2
         have m3 : World.cell? wn ⟨MB,3,none⟩=some (.slice ra R.length rc):=bM.cell 3
         have m4 : World.cell? wn ⟨MB,4,none⟩=some (.int .i64 tg):=bM.cell 4
         have m5 : World.cell? wn ⟨MB,5,none⟩=some (.int .i64 cl):=bM.cell 5
         have x0 : World.cell? wn ⟨bx,0,none⟩=some (.int .i64 snum):=hBx.cell 0
         have x1 : World.cell? wn ⟨bx,1,none⟩=some (.slice (some ⟨ub,uo,none⟩) scells.length sc):=hBx.cell 1
         have y0 : World.cell? wn ⟨ba,0,none⟩=some (.int .i64 anum):=hBa.cell 0
         have y1 : World.cell? wn ⟨ba,1,none⟩=some (.bool true):=hBa.cell 1
         have y2 : World.cell? wn ⟨ba,2,none⟩=some (.slice ca acells.length cc):=hBa.cell 2
         go_wp2
         go_quiet (fail)
         go_wp2
         go_ret
         rw [hrb.out (hnb.out (by simp only [itM,t2.out,Bool.and_false]))]
         exact ⟨rfl,hG.trans ((Ext.refl _).drewN _)⟩
        have u2 : decide (cl≤icl)=false:=decide_eq_false (by have:=of_decide_eq_true t2;omega)
        replace t2:=Lib.hid t2
        have m0 : World.cell? wn ⟨MB,0,none⟩=some (.slice (some ⟨b,off,none⟩) A.length ac):=bM.cell 0
        have m1 : World.cell? wn ⟨MB,1,none⟩=some (.int .i64 nx):=bM.cell 1
        have m2 : World.cell? wn ⟨MB,2,none⟩=some (.slice (some ⟨kb,ko,none⟩) K.length kc):=bM.cell 2
        have m3 : World.cell? wn ⟨MB,3,none⟩=some (.slice ra R.length rc):=bM.cell 3
        have m4 : World.cell? wn ⟨MB,4,none⟩=some (.int .i64 tg):=bM.cell 4
        have m5 : World.cell? wn ⟨MB,5,none⟩=some (.int .i64 cl):=bM.cell 5
        have x0 : World.cell? wn ⟨bx,0,none⟩=some (.int .i64 snum):=hBx.cell 0
        have x1 : World.cell? wn ⟨bx,1,none⟩=some (.slice (some ⟨ub,uo,none⟩) scells.length sc):=hBx.cell 1
        have y0 : World.cell? wn ⟨ba,0,none⟩=some (.int .i64 anum):=hBa.cell 0
        have y1 : World.cell? wn ⟨ba,1,none⟩=some (.bool true):=hBa.cell 1
        have y2 : World.cell? wn ⟨ba,2,none⟩=some (.slice ca acells.length cc):=hBa.cell 2
        go_wp2
        go_quiet (fail)
        go_wp2
        go_roundw
        case rel=>exact ⟨n+1,by omega,by go_num,hnn.out (by simp only [itM,t1.out,t2.out,Bool.and_self]),hZ.trans ((Ext.refl _).drewN _)⟩
        case measure=>simp [intOf];omega
       ·have hne2 : n=sk.length:=by omega
        subst hne2
        have hnl' : decide (sk.length < sk.length)=false:=decide_eq_false (by omega)
        rw [List.take_length] at hgn
        have hnx:=Lib.hid (hnext.out hgn)
        replace hgn:=Lib.hid hgn
        clear hnl hn
        have m0 : World.cell? wn ⟨MB,0,none⟩=some (.slice (some ⟨b,off,none⟩) A.length ac):=bM.cell 0
        have m1 : World.cell? wn ⟨MB,1,none⟩=some (.int .i64 nx):=bM.cell 1
        have m2 : World.cell? wn ⟨MB,2,none⟩=some (.slice (some ⟨kb,ko,none⟩) K.length kc):=bM.cell 2
        have m3 : World.cell? wn ⟨MB,3,none⟩=some (.slice ra R.length rc):=bM.cell 3
        have m4 : World.cell? wn ⟨MB,4,none⟩=some (.int .i64 tg):=bM.cell 4
        have m5 : World.cell? wn ⟨MB,5,none⟩=some (.int .i64 cl):=bM.cell 5
        have x0 : World.cell? wn ⟨bx,0,none⟩=some (.int .i64 snum):=hBx.cell 0
        have x1 : World.cell? wn ⟨bx,1,none⟩=some (.slice (some ⟨ub,uo,none⟩) scells.length sc):=hBx.cell 1
        have y0 : World.cell? wn ⟨ba,0,none⟩=some (.int .i64 anum):=hBa.cell 0
        have y1 : World.cell? wn ⟨ba,1,none⟩=some (.bool true):=hBa.cell 1
        have y2 : World.cell? wn ⟨ba,2,none⟩=some (.slice ca acells.length cc):=hBa.cell 2
        go_wp2
        go_roundw
        case rel=>exact ⟨k+1,by omega,by go_num,hnx.out,Ext.trans hY hZ⟩
        case measure=>simp [intOf];omega
   ·have hke : k=scells.length:=by omega
    subst hke
    have hkl' : decide (scells.length < scells.length)=false:=decide_eq_false (by omega)
    have hall : scells.flatten.all (fun it=>alive && itM tg cl it)=true:=by
     refine List.all_eq_true.2 fun it hit => ?_
     obtain ⟨s,hs,hi⟩:=List.mem_flatten.1 hit
     obtain ⟨j,hj⟩:=List.mem_iff_getElem?.1 hs
     exact List.all_eq_true.1 (hgood j s (List.getElem?_eq_some_iff.1 hj).1 hj) it hi
    have hres : Hid (rowM tg cl ⟨snum,scells⟩ ⟨anum,alive,acells⟩=true):=Hid.mk (by simp only [rowM,h1.out,h2.out,h3.out,hall,Bool.and_self])
    clear hkl hk hgood hall
    have m0 : World.cell? wk ⟨MB,0,none⟩=some (.slice (some ⟨b,off,none⟩) A.length ac):=bM.cell 0
    have m1 : World.cell? wk ⟨MB,1,none⟩=some (.int .i64 nx):=bM.cell 1
    have m2 : World.cell? wk ⟨MB,2,none⟩=some (.slice (some ⟨kb,ko,none⟩) K.length kc):=bM.cell 2
    have m3 : World.cell? wk ⟨MB,3,none⟩=some (.slice ra R.length rc):=bM.cell 3
    have m4 : World.cell? wk ⟨MB,4,none⟩=some (.int .i64 tg):=bM.cell 4
    have m5 : World.cell? wk ⟨MB,5,none⟩=some (.int .i64 cl):=bM.cell 5
    have x0 : World.cell? wk ⟨bx,0,none⟩=some (.int .i64 snum):=hBx.cell 0
    have x1 : World.cell? wk ⟨bx,1,none⟩=some (.slice sa scells.length sc):=hBx.cell 1
    have y0 : World.cell? wk ⟨ba,0,none⟩=some (.int .i64 anum):=hBa.cell 0
    have y1 : World.cell? wk ⟨ba,1,none⟩=some (.bool alive):=hBa.cell 1
    have y2 : World.cell? wk ⟨ba,2,none⟩=some (.slice ca acells.length cc):=hBa.cell 2
    go_wp2
    go_ret
    rw [hres.out]
    exact ⟨rfl,hG.trans hY⟩
end Go.Proofs.YtnplphcnagooeaaGreatDoor

/- Contracts: the reference's Check of layer 35. (printed by gen/ref35b.py) -/
namespace Go.Proofs.YtnplphcnagooeaaGreatDoor
set_option maxRecDepth 100000
open Go.RowKit
set_option maxRecDepth 100000 in
set_option maxHeartbeats 6400000 in
theorem ref35_Check {m : Mon} {sa ss sr : Value} {w : World} (hA : Als w sa m.mem.al) (hn : i64B m.mem.next) (hK : Kts w ss m.stks) (hR : Nts w sr m.run) :
  Calls Tryz.prog 18 #[.agg #[sa,.int .i64 m.mem.next,ss,sr,.int .i64 m.tag,.int .i64 m.call]] w fun e w'=>e = .returned (.int .i64 (monErr m))∧Ext w w':=by
 obtain ⟨aa,ac,rfl,hac,hacm,-⟩:=hA.form
 obtain ⟨ka,kc,rfl,hkc,hkcm,-⟩:=hK.form
 obtain ⟨ra,rc,rfl,hrc,hrcm,-⟩:=hR.form
 unfold maxLen at hacm hkcm hrcm
 have hE0 : Ext w (World.alloc w (.cells #[.slice aa m.mem.al.length ac,.int .i64 m.mem.next,.slice ka m.stks.length kc,.slice ra m.run.length rc,.int .i64 m.tag,.int .i64 m.call] 28)):=by repeat (first | exact Ext.refl _ | refine Ext.alloc ?_ _)
 have bM : Box (World.alloc w (.cells #[.slice aa m.mem.al.length ac,.int .i64 m.mem.next,.slice ka m.stks.length kc,.slice ra m.run.length rc,.int .i64 m.tag,.int .i64 m.call] 28)) (w.heap.size) 28 #[.slice aa m.mem.al.length ac,.int .i64 m.mem.next,.slice ka m.stks.length kc,.slice ra m.run.length rc,.int .i64 m.tag,.int .i64 m.call]:=(by
  have h:=Box.new w 28 #[.slice aa m.mem.al.length ac,.int .i64 m.mem.next,.slice ka m.stks.length kc,.slice ra m.run.length rc,.int .i64 m.tag,.int .i64 m.call]
  exact h)
 obtain ⟨w0,hw0⟩ : ∃ z,(World.alloc w (.cells #[.slice aa m.mem.al.length ac,.int .i64 m.mem.next,.slice ka m.stks.length kc,.slice ra m.run.length rc,.int .i64 m.tag,.int .i64 m.call] 28))=z:=⟨_,rfl⟩
 rw [hw0] at hE0 bM
 have hs0 : w0.heap.size=w.heap.size+1:=by rw [← hw0];simp
 replace hs0:=Lib.hid hs0
 replace hA:=Lib.hid hA
 replace hK:=Lib.hid hK
 replace hR:=Lib.hid hR
 replace hn:=Lib.hid hn
 cases c0 : okM m.mem.al m.mem.next
 ·have hce : Hid (memErr m.mem.al m.mem.next=8):=Hid.mk (memErr_bad c0)
  have hres : Hid (monErr m=8):=Hid.mk (monErr_head (by simp only [headM,c0,Bool.false_and]))
  clear c0
  go_enter Tryz.func18,Tryz.ntmps18
  obtain ⟨bM_0,bM_1,bM_2,bM_3,bM_4,bM_5,bM_l⟩:=bM.c6
  go_wp2_with fail
  clear bM_0 bM_1 bM_2 bM_3 bM_4 bM_5 bM_l
  refine (ref26_Check (hA.out.ext hE0) hn.out).mono ?_
  rintro e w1 ⟨rfl,hE1⟩
  replace bM:=bM.ext hE1
  have hF1:=Ext.trans hE0 hE1
  rw [hce.out]
  clear hw0
  obtain ⟨bM_0,bM_1,bM_2,bM_3,bM_4,bM_5,bM_l⟩:=bM.c6
  go_wp2
  clear bM_0 bM_1 bM_2 bM_3 bM_4 bM_5 bM_l
  go_ret
  rw [hres.out]
  exact ⟨rfl,hF1⟩
 have hce : Hid (memErr m.mem.al m.mem.next=0):=Hid.mk (memErr_ok c0)
 cases c1 : m.stks.length == m.mem.al.length
 ·have g1 : (m.stks.length != m.mem.al.length)=true:=by rw [bne,c1];rfl
  have g2 : ((m.stks.length : Int) != (m.mem.al.length : Int))=true:=by simp only [bne_iff_ne,ne_eq,Int.natCast_inj];simpa using c1
  have hres : Hid (monErr m=8):=Hid.mk (monErr_head (by simp only [headM,c1,Bool.false_and,Bool.and_false]))
  clear c0 c1
  go_enter Tryz.func18,Tryz.ntmps18
  obtain ⟨bM_0,bM_1,bM_2,bM_3,bM_4,bM_5,bM_l⟩:=bM.c6
  go_wp2_with fail
  clear bM_0 bM_1 bM_2 bM_3 bM_4 bM_5 bM_l
  refine (ref26_Check (hA.out.ext hE0) hn.out).mono ?_
  rintro e w1 ⟨rfl,hE1⟩
  replace bM:=bM.ext hE1
  have hF1:=Ext.trans hE0 hE1
  rw [hce.out]
  clear hw0
  obtain ⟨bM_0,bM_1,bM_2,bM_3,bM_4,bM_5,bM_l⟩:=bM.c6
  go_wp2
  clear bM_0 bM_1 bM_2 bM_3 bM_4 bM_5 bM_l
  go_ret
  rw [hres.out]
  exact ⟨rfl,hF1⟩
 have g1 : (m.stks.length != m.mem.al.length)=false:=by rw [bne,c1];rfl
 have g2 : ((m.stks.length : Int) != (m.mem.al.length : Int))=false:=by have:=eq_of_beq c1;rw [this];simp
 cases d0 : decide (m.tag < 1)
 rotate_left
 ·have h5 : cntd m.tag=false:=by have:=of_decide_eq_true d0;simp only [cntd,Bool.and_eq_false_iff,decide_eq_false_iff_not];omega
  have hres : Hid (monErr m=8):=Hid.mk (monErr_head (by simp only [headM,h5,Bool.false_and,Bool.and_false]))
  clear c0 c1 h5
  go_enter Tryz.func18,Tryz.ntmps18
  obtain ⟨bM_0,bM_1,bM_2,bM_3,bM_4,bM_5,bM_l⟩:=bM.c6
  go_wp2_with fail
  clear bM_0 bM_1 bM_2 bM_3 bM_4 bM_5 bM_l
  refine (ref26_Check (hA.out.ext hE0) hn.out).mono ?_
  rintro e w1 ⟨rfl,hE1⟩
  replace bM:=bM.ext hE1
  have hF1:=Ext.trans hE0 hE1
  rw [hce.out]
  clear hw0
  obtain ⟨bM_0,bM_1,bM_2,bM_3,bM_4,bM_5,bM_l⟩:=bM.c6
  go_wp2
  clear bM_0 bM_1 bM_2 bM_3 bM_4 bM_5 bM_l
  go_ret
  rw [hres.out]
  exact ⟨rfl,hF1⟩
 cases d1 : decide (1000000 < m.tag)
 rotate_left
 ·have h5 : cntd m.tag=false:=by have:=of_decide_eq_true d1;simp only [cntd,Bool.and_eq_false_iff,decide_eq_false_iff_not];omega
  have hres : Hid (monErr m=8):=Hid.mk (monErr_head (by simp only [headM,h5,Bool.false_and,Bool.and_false]))
  clear c0 c1 h5
  go_enter Tryz.func18,Tryz.ntmps18
  obtain ⟨bM_0,bM_1,bM_2,bM_3,bM_4,bM_5,bM_l⟩:=bM.c6
  go_wp2_with fail
  clear bM_0 bM_1 bM_2 bM_3 bM_4 bM_5 bM_l
  refine (ref26_Check (hA.out.ext hE0) hn.out).mono ?_
  rintro e w1 ⟨rfl,hE1⟩
  replace bM:=bM.ext hE1
  have hF1:=Ext.trans hE0 hE1
  rw [hce.out]
  clear hw0
  obtain ⟨bM_0,bM_1,bM_2,bM_3,bM_4,bM_5,bM_l⟩:=bM.c6
  go_wp2
  clear bM_0 bM_1 bM_2 bM_3 bM_4 bM_5 bM_l
  go_ret
  rw [hres.out]
  exact ⟨rfl,hF1⟩
 cases d2 : decide (m.call < 1)
 rotate_left
 ·have h5 : cntd m.call=false:=by have:=of_decide_eq_true d2;simp only [cntd,Bool.and_eq_false_iff,decide_eq_false_iff_not];omega
  have hres : Hid (monErr m=8):=Hid.mk (monErr_head (by simp only [headM,h5,Bool.false_and,Bool.and_false]))
  clear c0 c1 h5
  go_enter Tryz.func18,Tryz.ntmps18
  obtain ⟨bM_0,bM_1,bM_2,bM_3,bM_4,bM_5,bM_l⟩:=bM.c6
  go_wp2_with fail
  clear bM_0 bM_1 bM_2 bM_3 bM_4 bM_5 bM_l
  refine (ref26_Check (hA.out.ext hE0) hn.out).mono ?_
  rintro e w1 ⟨rfl,hE1⟩
  replace bM:=bM.ext hE1
  have hF1:=Ext.trans hE0 hE1
  rw [hce.out]
  clear hw0
  obtain ⟨bM_0,bM_1,bM_2,bM_3,bM_4,bM_5,bM_l⟩:=bM.c6
  go_wp2
  clear bM_0 bM_1 bM_2 bM_3 bM_4 bM_5 bM_l
  go_ret
  rw [hres.out]
  exact ⟨rfl,hF1⟩
 cases d3 : decide (1000000 < m.call)
 rotate_left
 ·have h5 : cntd m.call=false:=by have:=of_decide_eq_true d3;simp only [cntd,Bool.and_eq_false_iff,decide_eq_false_iff_not];omega
  have hres : Hid (monErr m=8):=Hid.mk (monErr_head (by simp only [headM,h5,Bool.false_and,Bool.and_false]))
  clear c0 c1 h5
  go_enter Tryz.func18,Tryz.ntmps18
  obtain ⟨bM_0,bM_1,bM_2,bM_3,bM_4,bM_5,bM_l⟩:=bM.c6
  go_wp2_with fail
  clear bM_0 bM_1 bM_2 bM_3 bM_4 bM_5 bM_l
  refine (ref26_Check (hA.out.ext hE0) hn.out).mono ?_
  rintro e w1 ⟨rfl,hE1⟩
  replace bM:=bM.ext hE1
  have hF1:=Ext.trans hE0 hE1
  rw [hce.out]
  clear hw0
  obtain ⟨bM_0,bM_1,bM_2,bM_3,bM_4,bM_5,bM_l⟩:=bM.c6
  go_wp2
  clear bM_0 bM_1 bM_2 bM_3 bM_4 bM_5 bM_l
  go_ret
  rw [hres.out]
  exact ⟨rfl,hF1⟩
 cases c6 : okR m.run
 ·have hre : Hid (runErr m.run=8):=Hid.mk (runErr_bad c6)
  have hres : Hid (monErr m=8):=Hid.mk (monErr_head (by simp only [headM,c6,Bool.and_false]))
  clear c0 c1 c6
  go_enter Tryz.func18,Tryz.ntmps18
  obtain ⟨bM_0,bM_1,bM_2,bM_3,bM_4,bM_5,bM_l⟩:=bM.c6
  go_wp2_with fail
  clear bM_0 bM_1 bM_2 bM_3 bM_4 bM_5 bM_l
  refine (ref26_Check (hA.out.ext hE0) hn.out).mono ?_
  rintro e w1 ⟨rfl,hE1⟩
  replace bM:=bM.ext hE1
  have hF1:=Ext.trans hE0 hE1
  rw [hce.out]
  clear hw0
  obtain ⟨bM_0,bM_1,bM_2,bM_3,bM_4,bM_5,bM_l⟩:=bM.c6
  go_wp2_with fail
  clear bM_0 bM_1 bM_2 bM_3 bM_4 bM_5 bM_l
  refine (ref31_Check (hR.out.ext hF1)).mono ?_
  rintro e wr0 ⟨rfl,rfl⟩
  rw [hre.out]
  obtain ⟨bM_0,bM_1,bM_2,bM_3,bM_4,bM_5,bM_l⟩:=bM.c6
  go_wp2
  clear bM_0 bM_1 bM_2 bM_3 bM_4 bM_5 bM_l
  go_ret
  rw [hres.out]
  exact ⟨rfl,hF1⟩
 have hre : Hid (runErr m.run=0):=Hid.mk (runErr_ok c6)
 have hhead : headM m=true:=by
  have h1 : cntd m.tag=true:=by have h2:=of_decide_eq_false d0;have h3:=of_decide_eq_false d1;simp only [cntd,Bool.and_eq_true,decide_eq_true_eq];omega
  have h4 : cntd m.call=true:=by have h2:=of_decide_eq_false d2;have h3:=of_decide_eq_false d3;simp only [cntd,Bool.and_eq_true,decide_eq_true_eq];omega
  simp only [headM,c0,c1,h1,h4,c6,Bool.and_self]
 have hlen:=eq_of_beq c1
 have hrl:=okR_len c6
 have hSt:=fun (w' : World) (hE : Ext w w') (i : Nat) (hi : i < m.stks.length)=>ref35_stacked (nx:=m.mem.next) (tg:=m.tag) (cl:=m.call) (hA.out.ext hE) (hK.out.ext hE) (hR.out.ext hE) hlen hi
 replace hSt:=Lib.hid hSt;replace hhead:=Lib.hid hhead;replace hlen:=Lib.hid hlen
 clear c0 c1 c6
 by_cases hz : m.run.length=0
 ·skip
  have z1 : decide (0 < m.run.length)=false:=decide_eq_false (by omega)
  have z2 : decide ((0 : Int) < (m.run.length : Int))=false:=decide_eq_false (by omega)
  replace hz:=Lib.hid hz
  go_enter Tryz.func18,Tryz.ntmps18
  obtain ⟨bM_0,bM_1,bM_2,bM_3,bM_4,bM_5,bM_l⟩:=bM.c6
  go_wp2_with fail
  clear bM_0 bM_1 bM_2 bM_3 bM_4 bM_5 bM_l
  refine (ref26_Check (hA.out.ext hE0) hn.out).mono ?_
  rintro e w1 ⟨rfl,hE1⟩
  replace bM:=bM.ext hE1
  have hF1:=Ext.trans hE0 hE1
  rw [hce.out]
  clear hw0
  obtain ⟨bM_0,bM_1,bM_2,bM_3,bM_4,bM_5,bM_l⟩:=bM.c6
  go_wp2_with fail
  clear bM_0 bM_1 bM_2 bM_3 bM_4 bM_5 bM_l
  refine (ref31_Check (hR.out.ext hF1)).mono ?_
  rintro e wr0 ⟨rfl,rfl⟩
  rw [hre.out]
  obtain ⟨bM_0,bM_1,bM_2,bM_3,bM_4,bM_5,bM_l⟩:=bM.c6
  go_wp2
  go_quiet (fail)
  clear bM_0 bM_1 bM_2 bM_3 bM_4 bM_5 bM_l
  have hD : Ext w1 (World.drewN w1 nq):=(Ext.refl _).drewN _
  obtain ⟨wq,hwq⟩ : ∃ z,World.drewN w1 nq=z:=⟨_,rfl⟩
  rw [hwq] at hD ⊢
  clear hwq
  replace bM:=bM.ext hD
  have hF3:=Ext.trans hF1 hD
  obtain ⟨bM_0,bM_1,bM_2,bM_3,bM_4,bM_5,bM_l⟩:=bM.c6
  go_wp2
  clear bM_0 bM_1 bM_2 bM_3 bM_4 bM_5 bM_l
  go_loopw [4] (fun iv wr => ∃ i : Nat,i≤m.stks.length∧iv = .int .i64 i∧(∀ j,j < i→rowAtM m j=true)∧Ext wq wr) (fun iv _=>m.stks.length - (intOf iv).toNat)
  case atStart=>exact ⟨0,Nat.zero_le _,rfl,fun j h=>by omega,Ext.refl _⟩
  case round =>
   obtain ⟨i,hi,rfl,hgood,hY⟩:=hrel
   obtain ⟨wi,hwi⟩ : ∃ z,wr=z:=⟨_,rfl⟩
   rw [hwi] at hY ⊢
   clear hwi
   replace bM:=bM.ext hY
   have hG:=Ext.trans hF3 hY
   by_cases hil : i < m.stks.length
   ·have hil' : decide (i < m.stks.length)=true:=decide_eq_true hil
    have m0 : World.cell? wi ⟨w.heap.size,0,none⟩=some (.slice aa m.mem.al.length ac):=bM.cell 0
    have m1 : World.cell? wi ⟨w.heap.size,1,none⟩=some (.int .i64 m.mem.next):=bM.cell 1
    have m2 : World.cell? wi ⟨w.heap.size,2,none⟩=some (.slice ka m.stks.length kc):=bM.cell 2
    have m3 : World.cell? wi ⟨w.heap.size,3,none⟩=some (.slice ra m.run.length rc):=bM.cell 3
    have m4 : World.cell? wi ⟨w.heap.size,4,none⟩=some (.int .i64 m.tag):=bM.cell 4
    have m5 : World.cell? wi ⟨w.heap.size,5,none⟩=some (.int .i64 m.call):=bM.cell 5
    have ml:=bM.lt
    have hS:=Lib.hid (hSt.out wi hG i hil)
    have him:=Lib.hid hil
    replace hgood:=Lib.hid hgood
    skip
    cases hrow : rowAtM m i
    ·have hrow1 : rowAtM ⟨⟨m.mem.al,m.mem.next⟩,m.stks,m.run,m.tag,m.call⟩ i=false:=hrow
     have hres : Hid (monErr m=8):=Hid.mk (monErr_row (by have:=hlen.out;have:=him.out;omega) hrow)
     replace hrow1:=Lib.hid hrow1
     clear hrow
     go_wp2_with fail
     refine hS.out.mono ?_
     rintro e w5 ⟨rfl,hE5⟩
     rw [hrow1.out]
     go_wp2
     go_ret
     rw [hres.out]
     exact ⟨rfl,hG.trans hE5⟩
    ·have hrow1 : rowAtM ⟨⟨m.mem.al,m.mem.next⟩,m.stks,m.run,m.tag,m.call⟩ i=true:=hrow
     have hnew : ∀ j,j < i+1→rowAtM m j=true:=fun j hj=>by
      by_cases e : j=i
      ·rw [e];exact hrow
      ·exact hgood.out j (by omega)
     replace hrow1:=Lib.hid hrow1;replace hnew:=Lib.hid hnew
     clear hrow
     go_wp2_with fail
     refine hS.out.mono ?_
     rintro e w5 ⟨rfl,hE5⟩
     rw [hrow1.out]
     go_wp2
     go_roundw
     case rel=>exact ⟨i+1,by omega,by go_num,hnew.out,hY.trans hE5⟩
     case measure=>simp [intOf];omega
   ·have hie : i=m.stks.length:=by omega
    subst hie
    have hil' : decide (m.stks.length < m.stks.length)=false:=decide_eq_false (by omega)
    have hres : Hid (monErr m=0):=Hid.mk (monErr_ok hhead.out (by simp only [lastM,hz.out,beq_self_eq_true,Bool.true_or]) (fun j hj=>hgood j (by rw [hlen.out];exact hj)))
    replace hgood:=Lib.hid hgood
    clear hil hi
    have m0 : World.cell? wi ⟨w.heap.size,0,none⟩=some (.slice aa m.mem.al.length ac):=bM.cell 0
    have m1 : World.cell? wi ⟨w.heap.size,1,none⟩=some (.int .i64 m.mem.next):=bM.cell 1
    have m2 : World.cell? wi ⟨w.heap.size,2,none⟩=some (.slice ka m.stks.length kc):=bM.cell 2
    have m3 : World.cell? wi ⟨w.heap.size,3,none⟩=some (.slice ra m.run.length rc):=bM.cell 3
    have m4 : World.cell? wi ⟨w.heap.size,4,none⟩=some (.int .i64 m.tag):=bM.cell 4
    have m5 : World.cell? wi ⟨w.heap.size,5,none⟩=some (.int .i64 m.call):=bM.cell 5
    have ml:=bM.lt
    go_wp2
    go_ret
    rw [hres.out]
    exact ⟨rfl,hG⟩
 have z1 : decide (0 < m.run.length)=true:=decide_eq_true (by omega)
 have z2 : decide ((0 : Int) < (m.run.length : Int))=true:=decide_eq_true (by omega)
 obtain ⟨rb,ro,rfl,hrb,hrcl⟩:=hR.out.cell (last_is hz)
 obtain ⟨last,hlast⟩ : ∃ n,lastR m.run=n:=⟨_,rfl⟩
 rw [hlast] at hrcl
 have hr1 : (0 : Int)≤(m.run.length : Int) - 1:=by omega
 have hr2 : (m.run.length : Int) - 1 < (m.run.length : Int):=by omega
 have hr3 : IntKind.i64.wrap ((m.run.length : Int) - 1)=(m.run.length : Int) - 1:=IntWalk.i64_in _ (by omega)
 have hr4 : ((m.run.length : Int) - 1).toNat=m.run.length - 1:=by omega
 have hr5 : 1≤m.run.length:=by omega
 replace hz:=Lib.hid hz;replace hlast:=Lib.hid hlast
 cases hlc : decide (last < m.call)
 ·skip
  have g5 : decide (m.call≤last)=true:=decide_eq_true (by have:=of_decide_eq_false hlc;omega)
  have hres : Hid (monErr m=8):=Hid.mk (monErr_last (by simp only [lastM,hlast.out,hlc,Bool.or_false];exact beq_eq_false_iff_ne.2 hz.out))
  clear hlc
  go_enter Tryz.func18,Tryz.ntmps18
  obtain ⟨bM_0,bM_1,bM_2,bM_3,bM_4,bM_5,bM_l⟩:=bM.c6
  go_wp2_with fail
  clear bM_0 bM_1 bM_2 bM_3 bM_4 bM_5 bM_l
  refine (ref26_Check (hA.out.ext hE0) hn.out).mono ?_
  rintro e w1 ⟨rfl,hE1⟩
  replace bM:=bM.ext hE1
  have hF1:=Ext.trans hE0 hE1
  rw [hce.out]
  clear hw0
  obtain ⟨bM_0,bM_1,bM_2,bM_3,bM_4,bM_5,bM_l⟩:=bM.c6
  go_wp2_with fail
  clear bM_0 bM_1 bM_2 bM_3 bM_4 bM_5 bM_l
  refine (ref31_Check (hR.out.ext hF1)).mono ?_
  rintro e wr0 ⟨rfl,rfl⟩
  rw [hre.out]
  have hrc2:=Ext.cell hF1 hrcl
  obtain ⟨bM_0,bM_1,bM_2,bM_3,bM_4,bM_5,bM_l⟩:=bM.c6
  go_wp2
  go_quiet (fail)
  clear bM_0 bM_1 bM_2 bM_3 bM_4 bM_5 bM_l
  clear hrc2
  have hD : Ext w1 (World.drewN w1 nq):=(Ext.refl _).drewN _
  obtain ⟨wq,hwq⟩ : ∃ z,World.drewN w1 nq=z:=⟨_,rfl⟩
  rw [hwq] at hD ⊢
  clear hwq
  replace bM:=bM.ext hD
  have hF2:=Ext.trans hF1 hD
  obtain ⟨bM_0,bM_1,bM_2,bM_3,bM_4,bM_5,bM_l⟩:=bM.c6
  go_wp2
  clear bM_0 bM_1 bM_2 bM_3 bM_4 bM_5 bM_l
  go_ret
  rw [hres.out]
  exact ⟨rfl,hF2⟩
 have g5 : decide (m.call≤last)=false:=decide_eq_false (by have:=of_decide_eq_true hlc;omega)
 replace hlc:=Lib.hid hlc
 go_enter Tryz.func18,Tryz.ntmps18
 obtain ⟨bM_0,bM_1,bM_2,bM_3,bM_4,bM_5,bM_l⟩:=bM.c6
 go_wp2_with fail
 clear bM_0 bM_1 bM_2 bM_3 bM_4 bM_5 bM_l
 refine (ref26_Check (hA.out.ext hE0) hn.out).mono ?_
 rintro e w1 ⟨rfl,hE1⟩
 replace bM:=bM.ext hE1
 have hF1:=Ext.trans hE0 hE1
 rw [hce.out]
 clear hw0
 obtain ⟨bM_0,bM_1,bM_2,bM_3,bM_4,bM_5,bM_l⟩:=bM.c6
 go_wp2_with fail
 clear bM_0 bM_1 bM_2 bM_3 bM_4 bM_5 bM_l
 refine (ref31_Check (hR.out.ext hF1)).mono ?_
 rintro e wr0 ⟨rfl,rfl⟩
 rw [hre.out]
 have hrc2:=Ext.cell hF1 hrcl
 obtain ⟨bM_0,bM_1,bM_2,bM_3,bM_4,bM_5,bM_l⟩:=bM.c6
 go_wp2
 go_quiet (fail)
 clear bM_0 bM_1 bM_2 bM_3 bM_4 bM_5 bM_l
 clear hrc2
 have hD : Ext w1 (World.drewN w1 nq):=(Ext.refl _).drewN _
 obtain ⟨wq,hwq⟩ : ∃ z,World.drewN w1 nq=z:=⟨_,rfl⟩
 rw [hwq] at hD ⊢
 clear hwq
 replace bM:=bM.ext hD
 have hF2:=Ext.trans hF1 hD
 obtain ⟨bM_0,bM_1,bM_2,bM_3,bM_4,bM_5,bM_l⟩:=bM.c6
 go_wp2
 clear bM_0 bM_1 bM_2 bM_3 bM_4 bM_5 bM_l
 go_loopw [4] (fun iv wr => ∃ i : Nat,i≤m.stks.length∧iv = .int .i64 i∧(∀ j,j < i→rowAtM m j=true)∧Ext wq wr) (fun iv _=>m.stks.length - (intOf iv).toNat)
 case atStart=>exact ⟨0,Nat.zero_le _,rfl,fun j h=>by omega,Ext.refl _⟩
 case round =>
  obtain ⟨i,hi,rfl,hgood,hY⟩:=hrel
  obtain ⟨wi,hwi⟩ : ∃ z,wr=z:=⟨_,rfl⟩
  rw [hwi] at hY ⊢
  clear hwi
  replace bM:=bM.ext hY
  have hG:=Ext.trans hF2 hY
  by_cases hil : i < m.stks.length
  ·have hil' : decide (i < m.stks.length)=true:=decide_eq_true hil
   have m0 : World.cell? wi ⟨w.heap.size,0,none⟩=some (.slice aa m.mem.al.length ac):=bM.cell 0
   have m1 : World.cell? wi ⟨w.heap.size,1,none⟩=some (.int .i64 m.mem.next):=bM.cell 1
   have m2 : World.cell? wi ⟨w.heap.size,2,none⟩=some (.slice ka m.stks.length kc):=bM.cell 2
   have m3 : World.cell? wi ⟨w.heap.size,3,none⟩=some (.slice (some ⟨rb,ro,none⟩) m.run.length rc):=bM.cell 3
   have m4 : World.cell? wi ⟨w.heap.size,4,none⟩=some (.int .i64 m.tag):=bM.cell 4
   have m5 : World.cell? wi ⟨w.heap.size,5,none⟩=some (.int .i64 m.call):=bM.cell 5
   have ml:=bM.lt
   have hS:=Lib.hid (hSt.out wi hG i hil)
   have him:=Lib.hid hil
   replace hgood:=Lib.hid hgood
   skip
   cases hrow : rowAtM m i
   ·have hrow1 : rowAtM ⟨⟨m.mem.al,m.mem.next⟩,m.stks,m.run,m.tag,m.call⟩ i=false:=hrow
    have hres : Hid (monErr m=8):=Hid.mk (monErr_row (by have:=hlen.out;have:=him.out;omega) hrow)
    replace hrow1:=Lib.hid hrow1
    clear hrow
    go_wp2_with fail
    refine hS.out.mono ?_
    rintro e w5 ⟨rfl,hE5⟩
    rw [hrow1.out]
    go_wp2
    go_ret
    rw [hres.out]
    exact ⟨rfl,hG.trans hE5⟩
   ·have hrow1 : rowAtM ⟨⟨m.mem.al,m.mem.next⟩,m.stks,m.run,m.tag,m.call⟩ i=true:=hrow
    have hnew : ∀ j,j < i+1→rowAtM m j=true:=fun j hj=>by
     by_cases e : j=i
     ·rw [e];exact hrow
     ·exact hgood.out j (by omega)
    replace hrow1:=Lib.hid hrow1;replace hnew:=Lib.hid hnew
    clear hrow
    go_wp2_with fail
    refine hS.out.mono ?_
    rintro e w5 ⟨rfl,hE5⟩
    rw [hrow1.out]
    go_wp2
    go_roundw
    case rel=>exact ⟨i+1,by omega,by go_num,hnew.out,hY.trans hE5⟩
    case measure=>simp [intOf];omega
  ·have hie : i=m.stks.length:=by omega
   subst hie
   have hil' : decide (m.stks.length < m.stks.length)=false:=decide_eq_false (by omega)
   have hres : Hid (monErr m=0):=Hid.mk (monErr_ok hhead.out (by simp only [lastM,hlast.out,hlc.out,Bool.or_true]) (fun j hj=>hgood j (by rw [hlen.out];exact hj)))
   replace hgood:=Lib.hid hgood
   clear hil hi
   have m0 : World.cell? wi ⟨w.heap.size,0,none⟩=some (.slice aa m.mem.al.length ac):=bM.cell 0
   have m1 : World.cell? wi ⟨w.heap.size,1,none⟩=some (.int .i64 m.mem.next):=bM.cell 1
   have m2 : World.cell? wi ⟨w.heap.size,2,none⟩=some (.slice ka m.stks.length kc):=bM.cell 2
   have m3 : World.cell? wi ⟨w.heap.size,3,none⟩=some (.slice (some ⟨rb,ro,none⟩) m.run.length rc):=bM.cell 3
   have m4 : World.cell? wi ⟨w.heap.size,4,none⟩=some (.int .i64 m.tag):=bM.cell 4
   have m5 : World.cell? wi ⟨w.heap.size,5,none⟩=some (.int .i64 m.call):=bM.cell 5
   have ml:=bM.lt
   go_wp2
   go_ret
   rw [hres.out]
   exact ⟨rfl,hG⟩
end Go.Proofs.YtnplphcnagooeaaGreatDoor

/- Contracts: Protects and End of layer 34, the program's and the reference's. (printed by gen/dea34.py) -/
namespace Go.Proofs.YtnplphcnagooeaaGreatDoor
set_option maxRecDepth 100000
open Go.RowKit
theorem endR34_bad {x : Stk} {run : List Int} (h : askErr x run=8) : endR34 x run=(0,8):=by simp [endR34,h]
theorem endR34_ok {x : Stk} {run : List Int} (h : askErr x run=0) : endR34 x run=(if freeB x.cells run then 0 else 2,0):=by simp [endR34,h]
set_option maxHeartbeats 1600000 in
theorem dealloc_End {l : List (List Item)} {run : List Int} {num : Int} {s v : Value} {w : World} (hl : Sts w s l) (hr : Nts w v run) :
  Calls Tryz.prog 67 #[.agg #[.int .i64 num,s],v] w fun e w'=>e = .returned (.tuple #[.int .u8 (endR34 ⟨num,l⟩ run).1,.int .i64 (endR34 ⟨num,l⟩ run).2])∧Ext w w':=by
 have hE0:=(Ext.refl w).alloc (.cells #[.int .i64 num,s] 68)
 have hl0:=hl.ext hE0
 have hr0:=hr.ext hE0
 have bM:=Box.new w 68 #[.int .i64 num,s]
 obtain ⟨a,cp,rfl,hlc,hcm,-⟩:=hl.form
 obtain ⟨a2,cp2,rfl,-⟩:=hr.form
 unfold maxLen at hcm
 have hL:=Lib.hid hl0
 have hV:=Lib.hid hr0
 clear hl hl0 hr hr0
 rcases askErr_cases ⟨num,l⟩ run with h8 | ⟨h0,hok,hkk⟩
 ·have hres:=Lib.hid (endR34_bad h8)
  replace h8:=Lib.hid h8
  go_enter Tryz.func67,Tryz.ntmps67
  go_wp2_with fail
  refine (dealloc_asked hL.out hV.out).mono ?_
  rintro e w1 ⟨rfl,hE1⟩
  rw [h8.out]
  go_wp2
  go_ret2
  exact ⟨by rw [hres.out] <;> rfl,hE0.trans hE1⟩
 ·have hres:=Lib.hid (endR34_ok h0)
  have hsm : l.length≤2 ∧ ∀ s ∈ l,s.length≤600:=okK_small hkk
  replace h0:=Lib.hid h0
  replace hok:=Lib.hid hok
  clear hkk
  cases hf : freeB l run
  all_goals
   replace hf:=Lib.hid hf
   go_enter Tryz.func67,Tryz.ntmps67
   go_wp2_with fail
   refine (dealloc_asked hL.out hV.out).mono ?_
   rintro e w1 ⟨rfl,hE1⟩
   rw [h0.out]
   replace bM:=bM.ext hE1
   have m0 : World.cell? w1 ⟨w.heap.size,0,none⟩=some (.int .i64 num):=bM.cell 0
   have m1 : World.cell? w1 ⟨w.heap.size,1,none⟩=some (.slice a l.length cp):=bM.cell 1
   go_wp2_with fail
   refine (dealloc_free (hL.out.ext hE1) (hV.out.ext hE1) hok.out).mono ?_
   rintro e w2 ⟨rfl,hE2⟩
   rw [hf.out]
   go_wp2
   go_ret2
   exact ⟨by rw [hres.out,hf.out] <;> rfl,(hE0.trans hE1).trans hE2⟩
end Go.Proofs.YtnplphcnagooeaaGreatDoor
