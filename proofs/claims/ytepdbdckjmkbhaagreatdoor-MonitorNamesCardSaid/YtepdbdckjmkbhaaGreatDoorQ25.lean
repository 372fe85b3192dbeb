/- Several texts in one: NmsB, NmsA, NmsC, RegSeq. -/
import Derived.Test.YtepdbdckjmkbhaaGreatDoorQ24
import Derived.Test.YtepdbdckjmkbhaaGreatDoorQ20
import Derived.Test.YtepdbdckjmkbhaaGreatDoorQ21
import Derived.Test.YtepdbdckjmkbhaaGreatDoorQ22
import Derived.Test.YtepdbdckjmkbhaaGreatDoorQ23
import Derived.Test.YtepdbdckjmkbhaaGreatDoorQ16
import Derived.Test.YtepdbdckjmkbhaaGreatDoorQ08
/- MonitorNames: a copy of the given monitor, block by block, and what is left when a cell of it is set; no program in sight. -/
namespace Go.Proofs.YtepdbdckjmkbhaaGreatDoor
set_option maxRecDepth 100000
open Go.RowKit
def givenM : Mon:=⟨⟨[⟨0,true,[⟨1,5,0,0,0⟩,Cell.zero]⟩],2⟩,[⟨0,[[⟨1,1,0⟩],[⟨1,1,0⟩]]⟩],[1],2,2⟩
structure Gv (w : World) (B : Nat) (gA cA gC cC gK cK gS cS g0 c0 g1 c1 gR cR : Nat) (xA xC xK xS x0 x1 xR : List Value) : Prop where
 oA : Own w B 40 3 (.slice (some ⟨gA,0,none⟩) 1 cA) 1 xA
 oC : Own w B 54 5 (.slice (some ⟨gC,0,none⟩) 2 cC) 2 xC
 oK : Own w B 33 2 (.slice (some ⟨gK,0,none⟩) 1 cK) 1 xK
 oS : Own w B 37 1 (.slice (some ⟨gS,0,none⟩) 2 cS) 2 xS
 o0 : Own w B 35 3 (.slice (some ⟨g0,0,none⟩) 1 c0) 1 x0
 o1 : Own w B 35 3 (.slice (some ⟨g1,0,none⟩) 1 c1) 1 x1
 oR : Own w B 3 1 (.slice (some ⟨gR,0,none⟩) 1 cR) 1 xR
 ap : g0≠g1
section
variable {w w' : World} {B gA cA gC cC gK cK gS cS g0 c0 g1 c1 gR cR : Nat} {xA xC xK xS x0 x1 xR : List Value}
theorem Gv.but {S : Nat→Prop} (h : Gv w B gA cA gC cC gK cK gS cS g0 c0 g1 c1 gR cR xA xC xK xS x0 x1 xR) (hE : ExtBut S w w') (hS : ∀ b,B≤b → ¬ S b) : Gv w' B gA cA gC cC gK cK gS cS g0 c0 g1 c1 gR cR xA xC xK xS x0 x1 xR :=
 ⟨ExtBut.own h.oA hE (fun g e=>hS g (h.oA.lt e).1),ExtBut.own h.oC hE (fun g e=>hS g (h.oC.lt e).1),ExtBut.own h.oK hE (fun g e=>hS g (h.oK.lt e).1),ExtBut.own h.oS hE (fun g e=>hS g (h.oS.lt e).1),
 ExtBut.own h.o0 hE (fun g e=>hS g (h.o0.lt e).1),ExtBut.own h.o1 hE (fun g e=>hS g (h.o1.lt e).1),ExtBut.own h.oR hE (fun g e=>hS g (h.oR.lt e).1),h.ap⟩
theorem Gv.ext (h : Gv w B gA cA gC cC gK cK gS cS g0 c0 g1 c1 gR cR xA xC xK xS x0 x1 xR) (hE : Ext w w') : Gv w' B gA cA gC cC gK cK gS cS g0 c0 g1 c1 gR cR xA xC xK xS x0 x1 xR:=h.but (ExtBut.of_ext (S:=fun _=>False) hE) (fun _ _ h=>h)
theorem Own.isNot {B2 e e2 k k2 n n2 g c : Nat} {v : Value} {xs ys : List Value} (h : Own w B e k (.slice (some ⟨g,0,none⟩) n c) n xs) (h2 : Own w B2 e2 k2 v n2 ys) (he : e2≠e) : ∀ g',v.ownBlock=some g' → ¬ g'=g:=fun g' e' h'=>by
 subst h'
 exact Own.apart h2 h he e' rfl
theorem Own.keepSet {B2 e k n g j : Nat} {v u : Value} {xs : List Value} (h : Own w B2 e k v n xs) (hg : ∀ g',v.ownBlock=some g' → ¬ g'=g) : Own (w.setCell ⟨g,j,none⟩ u) B2 e k v n xs :=
 ExtBut.own h (ExtBut.setCell w ⟨g,j,none⟩ u) hg
theorem Gv.setA (h : Gv w B gA cA gC cC gK cK gS cS g0 c0 g1 c1 gR cR xA xC xK xS x0 x1 xR) (j : Nat) (u : Value) : Gv (w.setCell ⟨gA,j,none⟩ u) B gA cA gC cC gK cK gS cS g0 c0 g1 c1 gR cR (xA.set j u) xC xK xS x0 x1 xR :=
 ⟨h.oA.set j u,h.oC.keepSet (h.oA.isNot h.oC (by decide)),h.oK.keepSet (h.oA.isNot h.oK (by decide)),h.oS.keepSet (h.oA.isNot h.oS (by decide)),h.o0.keepSet (h.oA.isNot h.o0 (by decide)),h.o1.keepSet (h.oA.isNot h.o1 (by decide)),h.oR.keepSet (h.oA.isNot h.oR (by decide)),h.ap⟩
theorem Gv.setK (h : Gv w B gA cA gC cC gK cK gS cS g0 c0 g1 c1 gR cR xA xC xK xS x0 x1 xR) (j : Nat) (u : Value) : Gv (w.setCell ⟨gK,j,none⟩ u) B gA cA gC cC gK cK gS cS g0 c0 g1 c1 gR cR xA xC (xK.set j u) xS x0 x1 xR :=
 ⟨h.oA.keepSet (h.oK.isNot h.oA (by decide)),h.oC.keepSet (h.oK.isNot h.oC (by decide)),h.oK.set j u,h.oS.keepSet (h.oK.isNot h.oS (by decide)),h.o0.keepSet (h.oK.isNot h.o0 (by decide)),h.o1.keepSet (h.oK.isNot h.o1 (by decide)),h.oR.keepSet (h.oK.isNot h.oR (by decide)),h.ap⟩
theorem Gv.set0 (h : Gv w B gA cA gC cC gK cK gS cS g0 c0 g1 c1 gR cR xA xC xK xS x0 x1 xR) (j : Nat) (u : Value) : Gv (w.setCell ⟨g0,j,none⟩ u) B gA cA gC cC gK cK gS cS g0 c0 g1 c1 gR cR xA xC xK xS (x0.set j u) x1 xR :=
 ⟨h.oA.keepSet (h.o0.isNot h.oA (by decide)),h.oC.keepSet (h.o0.isNot h.oC (by decide)),h.oK.keepSet (h.o0.isNot h.oK (by decide)),h.oS.keepSet (h.o0.isNot h.oS (by decide)),h.o0.set j u,h.o1.keepSet (fun g e e'=>h.ap (by cases e;exact e'.symm)),h.oR.keepSet (h.o0.isNot h.oR (by decide)),h.ap⟩
theorem Gv.set1 (h : Gv w B gA cA gC cC gK cK gS cS g0 c0 g1 c1 gR cR xA xC xK xS x0 x1 xR) (j : Nat) (u : Value) : Gv (w.setCell ⟨g1,j,none⟩ u) B gA cA gC cC gK cK gS cS g0 c0 g1 c1 gR cR xA xC xK xS x0 (x1.set j u) xR :=
 ⟨h.oA.keepSet (h.o1.isNot h.oA (by decide)),h.oC.keepSet (h.o1.isNot h.oC (by decide)),h.oK.keepSet (h.o1.isNot h.oK (by decide)),h.oS.keepSet (h.o1.isNot h.oS (by decide)),h.o0.keepSet (fun g e e'=>h.ap (by cases e;exact e')),h.o1.set j u,h.oR.keepSet (h.o1.isNot h.oR (by decide)),h.ap⟩
end
def GvN (w : World) (B gA cA gC cC gK cK gS cS g0 c0 g1 c1 gR cR : Nat) : Prop :=
 Gv w B gA cA gC cC gK cK gS cS g0 c0 g1 c1 gR cR [.int .i64 0,.bool true,.slice (some ⟨gC,0,none⟩) 2 cC] [.int .u8 1,.int .i64 5,.int .i64 0,.int .i64 0,.int .i64 0,.int .u8 0,.int .i64 0,.int .i64 0,.int .i64 0,.int .i64 0]
  [.int .i64 0,.slice (some ⟨gS,0,none⟩) 2 cS] [.slice (some ⟨g0,0,none⟩) 1 c0,.slice (some ⟨g1,0,none⟩) 1 c1] [.int .u8 1,.int .i64 1,.int .i64 0] [.int .u8 1,.int .i64 1,.int .i64 0] [.int .i64 1]
section
variable {w : World} {B gA cA gC cC gK cK gS cS g0 c0 g1 c1 gR cR : Nat}
theorem Gv.rd {num live c1k c1n c1a c1o c1t c2k c2n c2a c2o c2t knum p0 t0 k0 p1 t1 k1 r : _} {lv : Bool} (hl : live=Value.bool lv)
  (h : Gv w B gA cA gC cC gK cK gS cS g0 c0 g1 c1 gR cR [.int .i64 num,live,.slice (some ⟨gC,0,none⟩) 2 cC] [.int .u8 c1k,.int .i64 c1n,.int .i64 c1a,.int .i64 c1o,.int .i64 c1t,.int .u8 c2k,.int .i64 c2n,.int .i64 c2a,.int .i64 c2o,.int .i64 c2t]
   [.int .i64 knum,.slice (some ⟨gS,0,none⟩) 2 cS] [.slice (some ⟨g0,0,none⟩) 1 c0,.slice (some ⟨g1,0,none⟩) 1 c1] [.int .u8 p0,.int .i64 t0,.int .i64 k0] [.int .u8 p1,.int .i64 t1,.int .i64 k1] [.int .i64 r]) :
  Als w (.slice (some ⟨gA,0,none⟩) 1 cA) [⟨num,lv,[⟨c1k,c1n,c1a,c1o,c1t⟩,⟨c2k,c2n,c2a,c2o,c2t⟩]⟩]∧Kts w (.slice (some ⟨gK,0,none⟩) 1 cK) [⟨knum,[[⟨p0,t0,k0⟩],[⟨p1,t1,k1⟩]]⟩]∧Nts w (.slice (some ⟨gR,0,none⟩) 1 cR) [r]:=by
 subst hl
 exact ⟨⟨[_],⟨h.oC.sl,trivial⟩,h.oA.sl⟩,⟨[_],⟨⟨[_,_],⟨h.o0.sl,h.o1.sl,trivial⟩,h.oS.sl⟩,trivial⟩,h.oK.sl⟩,h.oR.sl⟩
end
structure Gv.Lts (n : Nat) (gA gC gK gS g0 g1 gR : Nat) : Prop where
 a : gA < n
 c : gC < n
 k : gK < n
 s : gS < n
 i0 : g0 < n
 i1 : g1 < n
 r : gR < n
section
variable {w w' : World} {B gA cA gC cC gK cK gS cS g0 c0 g1 c1 gR cR : Nat} {xA xC xK xS x0 x1 xR : List Value}
theorem Gv.lts (h : Gv w B gA cA gC cC gK cK gS cS g0 c0 g1 c1 gR cR xA xC xK xS x0 x1 xR) : Gv.Lts w.heap.size gA gC gK gS g0 g1 gR :=
 ⟨(h.oA.lt rfl).2,(h.oC.lt rfl).2,(h.oK.lt rfl).2,(h.oS.lt rfl).2,(h.o0.lt rfl).2,(h.o1.lt rfl).2,(h.oR.lt rfl).2⟩
theorem Gv.off {n : Nat} (h : Gv w B gA cA gC cC gK cK gS cS g0 c0 g1 c1 gR cR xA xC xK xS x0 x1 xR) (hE : ExtBut (fun b=>b=n) w w') (hn : Gv.Lts n gA gC gK gS g0 g1 gR) : Gv w' B gA cA gC cC gK cK gS cS g0 c0 g1 c1 gR cR xA xC xK xS x0 x1 xR:=by
 obtain ⟨q1,q2,q3,q4,q5,q6,q7⟩:=hn
 exact ⟨ExtBut.own h.oA hE (fun g e h=>by cases e;exact Nat.ne_of_lt q1 h),ExtBut.own h.oC hE (fun g e h=>by cases e;exact Nat.ne_of_lt q2 h),ExtBut.own h.oK hE (fun g e h=>by cases e;exact Nat.ne_of_lt q3 h),ExtBut.own h.oS hE (fun g e h=>by cases e;exact Nat.ne_of_lt q4 h),
 ExtBut.own h.o0 hE (fun g e h=>by cases e;exact Nat.ne_of_lt q5 h),ExtBut.own h.o1 hE (fun g e h=>by cases e;exact Nat.ne_of_lt q6 h),ExtBut.own h.oR hE (fun g e h=>by cases e;exact Nat.ne_of_lt q7 h),h.ap⟩
end
theorem Gv.tail {w : World} {B gA cA gC cC gK cK gS cS g0 c0 g1 c1 gR cR : Nat} {xA xC xK x0 x1 xR : List Value} {u0 u1 : Value} (h : Gv w B gA cA gC cC gK cK gS cS g0 c0 g1 c1 gR cR xA xC xK [u0,u1] x0 x1 xR) (hc : 2≤cS) : Sl w 1 (.slice (some ⟨gS,1,none⟩) 1 (cS - 1)) 1 [u1]:=by
 have h1:=Sl.drop h.oS.sl 1 (by omega)
 rw [if_neg (by omega)] at h1
 simpa [Addr.add] using h1
theorem Gv.rest {S : Nat→Prop} {w w' : World} {n B gA cA gC cC gK cK gS cS g0 c0 g1 c1 gR cR : Nat} (h : GvN w B gA cA gC cC gK cK gS cS g0 c0 g1 c1 gR cR) (hE : ExtBut S w w') (hS : ∀ b,b≠gK→S b→n≤b) (hn : Gv.Lts n gA gC gK gS g0 g1 gR) :
  Als w' (.slice (some ⟨gA,0,none⟩) 1 cA) givenM.mem.al∧Sts w' (.slice (some ⟨gS,0,none⟩) 2 cS) [[⟨1,1,0⟩],[⟨1,1,0⟩]]∧Nts w' (.slice (some ⟨gR,0,none⟩) 1 cR) [1]:=by
 have k : ∀ {g : Nat},¬ g=gK→g < n → ¬ S g:=fun h1 h2 h3=>Nat.lt_irrefl _ (Nat.lt_of_lt_of_le h2 (hS _ h1 h3))
 have a1:=ExtBut.own h.oA hE (fun g e=>k (h.oK.isNot h.oA (by decide) g e) (by cases e;exact hn.a))
 have a2:=ExtBut.own h.oC hE (fun g e=>k (h.oK.isNot h.oC (by decide) g e) (by cases e;exact hn.c))
 have a3:=ExtBut.own h.oS hE (fun g e=>k (h.oK.isNot h.oS (by decide) g e) (by cases e;exact hn.s))
 have a4:=ExtBut.own h.o0 hE (fun g e=>k (h.oK.isNot h.o0 (by decide) g e) (by cases e;exact hn.i0))
 have a5:=ExtBut.own h.o1 hE (fun g e=>k (h.oK.isNot h.o1 (by decide) g e) (by cases e;exact hn.i1))
 have a6:=ExtBut.own h.oR hE (fun g e=>k (h.oK.isNot h.oR (by decide) g e) (by cases e;exact hn.r))
 exact ⟨⟨[_],⟨a2.sl,trivial⟩,a1.sl⟩,⟨[_,_],⟨a4.sl,a5.sl,trivial⟩,a3.sl⟩,a6.sl⟩
def BadRes (W : World) (b : Nat) (wx : World) : Prop := ∃ (m : Mon) (a : A3),
 Box wx b 28 #[.slice a.a1 m.mem.al.length a.c1,.int .i64 m.mem.next,.slice a.a2 m.stks.length a.c2,.slice a.a3 m.run.length a.c3,.int .i64 m.tag,.int .i64 m.call]∧RdA m a wx∧okMon m=false∧i64B m.mem.next∧Ext W wx
theorem given_small : small givenM.mem.al∧(givenM.stks.length≤1000000 ∧ ∀ x ∈ givenM.stks,x.cells.length≤1000000 ∧ ∀ s ∈ x.cells,s.length≤1000000)∧givenM.run.length≤1000000:=by
 refine ⟨⟨by decide,fun a ha => ?_⟩,⟨by decide,fun x hx => ?_⟩,by decide⟩
 ·simp only [givenM,List.mem_singleton] at ha
  subst ha
  decide
 ·simp only [givenM,List.mem_singleton] at hx
  subst hx
  decide
theorem Tw.given {w : World} {B N : Nat} {sa ss sr : Value} {vsA vs : List Value} (h : Tw w B N sa ss sr vsA vs givenM) (hi : ∀ (i : Nat) (s : Value) (x : Stk),vs[i]? = some s→givenM.stks[i]? = some x → ∃ us,OwnS w N s us x.cells) :
  ∃ gA cA gC cC gK cK gS cS g0 c0 g1 c1 gR cR,sa = .slice (some ⟨gA,0,none⟩) 1 cA∧ss = .slice (some ⟨gK,0,none⟩) 1 cK∧sr = .slice (some ⟨gR,0,none⟩) 1 cR∧GvN w B gA cA gC cC gK cK gS cS g0 c0 g1 c1 gR cR∧1≤cA∧1≤cK∧1≤cR∧2≤cS∧cA≤maxLen∧cK≤maxLen∧cS≤maxLen:=by
 obtain ⟨gA,cA,rfl,hA1,hA2,-⟩:=h.al.outer.form (by decide)
 obtain ⟨gK,cK,rfl,hK1,hK2,-⟩:=h.stk.outer.form (by decide)
 obtain ⟨gR,cR,rfl,hR1,hR2,-⟩:=h.run.form (by decide)
 have hlA:=(All2.iff.1 h.al.inner).1
 have hlK:=h.stk.len
 match vsA,hlA,vs,hlK with
 | [vA],_,[vK],_ =>
  have hC : Own w B 54 5 vA 2 _:=h.al.inner.1
  obtain ⟨gC,cC,rfl,-⟩:=hC.form (by decide)
  obtain ⟨us,hS⟩:=hi 0 vK _ rfl rfl
  obtain ⟨gS,cS,rfl,hS1,hS2,-⟩:=hS.outer.form (by decide)
  have hlS:=(All2.iff.1 hS.inner).1
  match us,hlS with
  | [u0,u1],_ =>
   have h0 : Own w N 35 3 u0 1 _:=hS.inner.1
   have h1 : Own w N 35 3 u1 1 _:=hS.inner.2.1
   obtain ⟨g0,c0,rfl,-⟩:=h0.form (by decide)
   obtain ⟨g1,c1,rfl,-⟩:=h1.form (by decide)
   exact ⟨gA,cA,gC,cC,gK,cK,gS,cS,g0,c0,g1,c1,gR,cR,rfl,rfl,rfl,⟨h.al.outer,hC,h.stk.outer.mono h.low.1,hS.outer.mono h.low.1,h0.mono h.low.1,h1.mono h.low.1,h.run,fun e=>hS.apart 0 1 _ _ (by decide) rfl rfl g0 rfl (by rw [e];rfl)⟩,hA1,hK1,hR1,hS1,hA2,hK2,hS2⟩
end Go.Proofs.YtepdbdckjmkbhaaGreatDoor

/- Layer 35's own functions bad and given. (printed by gen/law35h.py) -/
namespace Go.Proofs.YtepdbdckjmkbhaaGreatDoor
set_option maxRecDepth 100000
open Go.RowKit
theorem monErr_bad {m : Mon} (h : okMon m=false) : monErr m=8:=by simp [monErr,h]
set_option maxRecDepth 100000 in
set_option maxHeartbeats 6400000 in
theorem law35_bad {m : Mon} {vm : Value} {wS : World} (hp : Perms wS) (hm : RdMon wS vm m) (hn : i64B m.mem.next) (hb : okMon m=false) :
  Calls Tryz.prog 7 #[vm] wS fun e w'=>e = .returned (.bool true)∧Ext wS w':=by
 obtain ⟨sa,ss,sr,rfl,hA,hK,hR⟩:=hm
 obtain ⟨aa,ac,rfl,hac,hacm,-⟩:=hA.form
 obtain ⟨ka,kc,rfl,hkc,hkcm,-⟩:=hK.form
 obtain ⟨ra,rc,rfl,hrc,hrcm,-⟩:=hR.form
 unfold maxLen at hacm hkcm hrcm
 have hE0 : Ext wS (World.alloc wS (.cells #[.slice aa m.mem.al.length ac,.int .i64 m.mem.next,.slice ka m.stks.length kc,.slice ra m.run.length rc,.int .i64 m.tag,.int .i64 m.call] 28)):=by repeat (first | exact Ext.refl _ | refine Ext.alloc ?_ _)
 have bM : Box (World.alloc wS (.cells #[.slice aa m.mem.al.length ac,.int .i64 m.mem.next,.slice ka m.stks.length kc,.slice ra m.run.length rc,.int .i64 m.tag,.int .i64 m.call] 28)) (wS.heap.size) 28 #[.slice aa m.mem.al.length ac,.int .i64 m.mem.next,.slice ka m.stks.length kc,.slice ra m.run.length rc,.int .i64 m.tag,.int .i64 m.call]:=(by
  have h:=Box.new wS 28 #[.slice aa m.mem.al.length ac,.int .i64 m.mem.next,.slice ka m.stks.length kc,.slice ra m.run.length rc,.int .i64 m.tag,.int .i64 m.call]
  exact h)
 obtain ⟨w0,hw0⟩ : ∃ z,(World.alloc wS (.cells #[.slice aa m.mem.al.length ac,.int .i64 m.mem.next,.slice ka m.stks.length kc,.slice ra m.run.length rc,.int .i64 m.tag,.int .i64 m.call] 28))=z:=⟨_,rfl⟩
 rw [hw0] at hE0 bM
 replace hA:=Lib.hid hA;replace hK:=Lib.hid hK;replace hR:=Lib.hid hR;replace hn:=Lib.hid hn;replace hb:=Lib.hid hb;replace hp:=Lib.hid hp
 obtain ⟨Z,hZm⟩ : ∃ z,Mon.zero=z:=⟨_,rfl⟩
 replace hZm:=Lib.hid hZm
 go_enter Tryz.func7,Tryz.ntmps7
 obtain ⟨bM_0,bM_1,bM_2,bM_3,bM_4,bM_5,bM_l⟩:=bM.c6
 go_wp2_with fail
 try rw [hw0]
 clear hw0
 clear bM_0 bM_1 bM_2 bM_3 bM_4 bM_5 bM_l
 refine (monitor_Alloc 0 (hA.out.ext hE0) hn.out (hK.out.ext hE0) (hR.out.ext hE0)).mono ?_
 rintro e w1 ⟨vt,rfl,fM,hE1⟩
 replace bM:=bM.ext hE1
 have hF1:=Ext.trans hE0 hE1
 rw [allocM_bad hb.out,hZm.out] at fM ⊢
 try dsimp only [Ptr.val,Ptr.zero] at fM ⊢
 obtain ⟨asa,ass,asr,rfl,qa⟩:=FrMon.parts fM
 clear fM
 obtain ⟨v_aa,v_aac,rfl,-⟩:=(qa.read).1.form
 obtain ⟨v_ak,v_akc,rfl,-⟩:=(qa.read).2.1.form
 obtain ⟨v_ar,v_arc,rfl,-⟩:=(qa.read).2.2.form
 try dsimp only at qa ⊢
 have Ga:=Lib.hid (Fq.mono (S':=(fun b=>True)) qa (fun b h1 _=>by exact trivial))
 clear qa
 obtain ⟨bM_0,bM_1,bM_2,bM_3,bM_4,bM_5,bM_l⟩:=bM.c6
 go_wp2_with fail
 clear bM_0 bM_1 bM_2 bM_3 bM_4 bM_5 bM_l
 have bA:=Box.new w1 28 #[.slice v_aa Z.mem.al.length v_aac,.int .i64 Z.mem.next,.slice v_ak Z.stks.length v_akc,.slice v_ar Z.run.length v_arc,.int .i64 Z.tag,.int .i64 Z.call]
 have hza : (World.alloc w1 (.cells #[.slice v_aa Z.mem.al.length v_aac,.int .i64 Z.mem.next,.slice v_ak Z.stks.length v_akc,.slice v_ar Z.run.length v_arc,.int .i64 Z.tag,.int .i64 Z.call] 28)).heap.size=w1.heap.size+1:=by rw [World.size_alloc]
 have hx2 : Ext w1 (World.alloc w1 (.cells #[.slice v_aa Z.mem.al.length v_aac,.int .i64 Z.mem.next,.slice v_ak Z.stks.length v_akc,.slice v_ar Z.run.length v_arc,.int .i64 Z.tag,.int .i64 Z.call] 28)):=(Ext.refl _).alloc _
 obtain ⟨w2b,hw2⟩ : ∃ z,World.alloc w1 (.cells #[.slice v_aa Z.mem.al.length v_aac,.int .i64 Z.mem.next,.slice v_ak Z.stks.length v_akc,.slice v_ar Z.run.length v_arc,.int .i64 Z.tag,.int .i64 Z.call] 28)=z:=⟨_,rfl⟩
 rw [hw2] at bA hx2 hza ⊢
 clear hw2
 have hzb0:=hza
 clear hza
 replace bM:=bM.ext hx2
 replace Ga:=Lib.hid (Fq.ext Ga.out hx2)
 have hF3:=Ext.trans hF1 hx2
 have bP:=Box.new w2b 43 #[.int .i64 0,.int .i64 0,.int .i64 0]
 rw [hzb0] at bP
 have hza : (World.alloc w2b (.cells #[.int .i64 0,.int .i64 0,.int .i64 0] 43)).heap.size=w1.heap.size+2:=by rw [World.size_alloc,hzb0]
 have hx4 : Ext w2b (World.alloc w2b (.cells #[.int .i64 0,.int .i64 0,.int .i64 0] 43)):=(Ext.refl _).alloc _
 obtain ⟨w4b,hw4⟩ : ∃ z,World.alloc w2b (.cells #[.int .i64 0,.int .i64 0,.int .i64 0] 43)=z:=⟨_,rfl⟩
 rw [hw4] at bP hx4 hza ⊢
 clear hw4
 clear hzb0
 have hzb1:=hza
 clear hza
 replace bM:=bM.ext hx4
 replace bA:=bA.ext hx4
 replace Ga:=Lib.hid (Fq.ext Ga.out hx4)
 have hF5:=Ext.trans hF3 hx4
 clear hzb1
 refine (monitor_Load (-1) 0 0 0 (hA.out.ext hF5) hn.out (hK.out.ext hF5) (hR.out.ext hF5)).mono ?_
 rintro e w6 ⟨vt,vl,rfl,fM,fL,hE6⟩
 replace bM:=bM.ext hE6
 replace bA:=bA.ext hE6
 replace bP:=bP.ext hE6
 replace Ga:=Lib.hid (Fq.ext Ga.out hE6)
 have hF6:=Ext.trans hF5 hE6
 rw [loadM_bad hb.out,hZm.out] at fM fL ⊢
 try dsimp only [Ptr.val,Ptr.zero] at fM fL ⊢
 obtain ⟨bsa,bss,bsr,rfl,qb⟩:=FrMon.parts fM
 clear fM
 obtain ⟨v_ba,v_bac,rfl,-⟩:=(qb.read).1.form
 obtain ⟨v_bk,v_bkc,rfl,-⟩:=(qb.read).2.1.form
 obtain ⟨v_br,v_brc,rfl,-⟩:=(qb.read).2.2.form
 try dsimp only at qb ⊢
 obtain ⟨lbx,lbc,rfl,-⟩:=fL.read.form
 clear fL
 dsimp only [List.length]
 have Gb:=Lib.hid (Fq.mono (S':=(fun b=>True)) qb (fun b h1 _=>by exact trivial))
 clear qb
 clear Ga
 clear bA
 clear bP
 obtain ⟨bM_0,bM_1,bM_2,bM_3,bM_4,bM_5,bM_l⟩:=bM.c6
 go_wp2_with fail
 clear bM_0 bM_1 bM_2 bM_3 bM_4 bM_5 bM_l
 have bA:=Box.new w6 28 #[.slice v_ba Z.mem.al.length v_bac,.int .i64 Z.mem.next,.slice v_bk Z.stks.length v_bkc,.slice v_br Z.run.length v_brc,.int .i64 Z.tag,.int .i64 Z.call]
 have hza : (World.alloc w6 (.cells #[.slice v_ba Z.mem.al.length v_bac,.int .i64 Z.mem.next,.slice v_bk Z.stks.length v_bkc,.slice v_br Z.run.length v_brc,.int .i64 Z.tag,.int .i64 Z.call] 28)).heap.size=w6.heap.size+1:=by rw [World.size_alloc]
 have hx7 : Ext w6 (World.alloc w6 (.cells #[.slice v_ba Z.mem.al.length v_bac,.int .i64 Z.mem.next,.slice v_bk Z.stks.length v_bkc,.slice v_br Z.run.length v_brc,.int .i64 Z.tag,.int .i64 Z.call] 28)):=(Ext.refl _).alloc _
 obtain ⟨w7b,hw7⟩ : ∃ z,World.alloc w6 (.cells #[.slice v_ba Z.mem.al.length v_bac,.int .i64 Z.mem.next,.slice v_bk Z.stks.length v_bkc,.slice v_br Z.run.length v_brc,.int .i64 Z.tag,.int .i64 Z.call] 28)=z:=⟨_,rfl⟩
 rw [hw7] at bA hx7 hza ⊢
 clear hw7
 have hzb0:=hza
 clear hza
 replace bM:=bM.ext hx7
 replace Gb:=Lib.hid (Fq.ext Gb.out hx7)
 have hF8:=Ext.trans hF6 hx7
 clear hzb0
 refine (monitor_Store (l:=[]) (-1) 0 0 (hA.out.ext hF8) hn.out (hK.out.ext hF8) (hR.out.ext hF8) (Cls.nil _)).mono ?_
 rintro e w9 ⟨vt,rfl,fM,hE9⟩
 replace bM:=bM.ext hE9
 replace bA:=bA.ext hE9
 replace Gb:=Lib.hid (Fq.ext Gb.out hE9)
 have hF9:=Ext.trans hF8 hE9
 rw [storeM_bad hb.out,hZm.out] at fM ⊢
 try dsimp only [Ptr.val,Ptr.zero] at fM ⊢
 obtain ⟨csa,css,csr,rfl,qc⟩:=FrMon.parts fM
 clear fM
 obtain ⟨v_ca,v_cac,rfl,-⟩:=(qc.read).1.form
 obtain ⟨v_ck,v_ckc,rfl,-⟩:=(qc.read).2.1.form
 obtain ⟨v_cr,v_crc,rfl,-⟩:=(qc.read).2.2.form
 try dsimp only at qc ⊢
 have Gc:=Lib.hid (Fq.mono (S':=(fun b=>True)) qc (fun b h1 _=>by exact trivial))
 clear qc
 clear Gb
 clear bA
 obtain ⟨bM_0,bM_1,bM_2,bM_3,bM_4,bM_5,bM_l⟩:=bM.c6
 go_wp2_with fail
 clear bM_0 bM_1 bM_2 bM_3 bM_4 bM_5 bM_l
 have bA:=Box.new w9 28 #[.slice v_ca Z.mem.al.length v_cac,.int .i64 Z.mem.next,.slice v_ck Z.stks.length v_ckc,.slice v_cr Z.run.length v_crc,.int .i64 Z.tag,.int .i64 Z.call]
 have hza : (World.alloc w9 (.cells #[.slice v_ca Z.mem.al.length v_cac,.int .i64 Z.mem.next,.slice v_ck Z.stks.length v_ckc,.slice v_cr Z.run.length v_crc,.int .i64 Z.tag,.int .i64 Z.call] 28)).heap.size=w9.heap.size+1:=by rw [World.size_alloc]
 have hx10 : Ext w9 (World.alloc w9 (.cells #[.slice v_ca Z.mem.al.length v_cac,.int .i64 Z.mem.next,.slice v_ck Z.stks.length v_ckc,.slice v_cr Z.run.length v_crc,.int .i64 Z.tag,.int .i64 Z.call] 28)):=(Ext.refl _).alloc _
 obtain ⟨w10b,hw10⟩ : ∃ z,World.alloc w9 (.cells #[.slice v_ca Z.mem.al.length v_cac,.int .i64 Z.mem.next,.slice v_ck Z.stks.length v_ckc,.slice v_cr Z.run.length v_crc,.int .i64 Z.tag,.int .i64 Z.call] 28)=z:=⟨_,rfl⟩
 rw [hw10] at bA hx10 hza ⊢
 clear hw10
 have hzb0:=hza
 clear hza
 replace bM:=bM.ext hx10
 replace Gc:=Lib.hid (Fq.ext Gc.out hx10)
 have hF11:=Ext.trans hF9 hx10
 clear hzb0
 refine (monitor_Retag (kind:=9) (-1) 0 0 0 (-1) (hp.out.ext hF11) (by unfold u8B;decide) (hA.out.ext hF11) hn.out (hK.out.ext hF11) (hR.out.ext hF11)).mono ?_
 rintro e w12 ⟨vt,rfl,fM,hE12⟩
 replace bM:=bM.ext hE12
 replace bA:=bA.ext hE12
 replace Gc:=Lib.hid (Fq.ext Gc.out hE12)
 have hF12:=Ext.trans hF11 hE12
 rw [retagM_bad hb.out,hZm.out] at fM ⊢
 try dsimp only [Ptr.val,Ptr.zero] at fM ⊢
 obtain ⟨dsa,dss,dsr,rfl,qd⟩:=FrMon.parts fM
 clear fM
 obtain ⟨v_da,v_dac,rfl,-⟩:=(qd.read).1.form
 obtain ⟨v_dk,v_dkc,rfl,-⟩:=(qd.read).2.1.form
 obtain ⟨v_dr,v_drc,rfl,-⟩:=(qd.read).2.2.form
 try dsimp only at qd ⊢
 have Gd:=Lib.hid (Fq.mono (S':=(fun b=>True)) qd (fun b h1 _=>by exact trivial))
 clear qd
 clear Gc
 clear bA
 obtain ⟨bM_0,bM_1,bM_2,bM_3,bM_4,bM_5,bM_l⟩:=bM.c6
 go_wp2_with fail
 clear bM_0 bM_1 bM_2 bM_3 bM_4 bM_5 bM_l
 have bA:=Box.new w12 28 #[.slice v_da Z.mem.al.length v_dac,.int .i64 Z.mem.next,.slice v_dk Z.stks.length v_dkc,.slice v_dr Z.run.length v_drc,.int .i64 Z.tag,.int .i64 Z.call]
 have hza : (World.alloc w12 (.cells #[.slice v_da Z.mem.al.length v_dac,.int .i64 Z.mem.next,.slice v_dk Z.stks.length v_dkc,.slice v_dr Z.run.length v_drc,.int .i64 Z.tag,.int .i64 Z.call] 28)).heap.size=w12.heap.size+1:=by rw [World.size_alloc]
 have hx13 : Ext w12 (World.alloc w12 (.cells #[.slice v_da Z.mem.al.length v_dac,.int .i64 Z.mem.next,.slice v_dk Z.stks.length v_dkc,.slice v_dr Z.run.length v_drc,.int .i64 Z.tag,.int .i64 Z.call] 28)):=(Ext.refl _).alloc _
 obtain ⟨w13b,hw13⟩ : ∃ z,World.alloc w12 (.cells #[.slice v_da Z.mem.al.length v_dac,.int .i64 Z.mem.next,.slice v_dk Z.stks.length v_dkc,.slice v_dr Z.run.length v_drc,.int .i64 Z.tag,.int .i64 Z.call] 28)=z:=⟨_,rfl⟩
 rw [hw13] at bA hx13 hza ⊢
 clear hw13
 have hzb0:=hza
 clear hza
 replace bM:=bM.ext hx13
 replace Gd:=Lib.hid (Fq.ext Gd.out hx13)
 have hF14:=Ext.trans hF12 hx13
 have bP:=Box.new w13b 43 #[.int .i64 0,.int .i64 0,.int .i64 0]
 rw [hzb0] at bP
 have hza : (World.alloc w13b (.cells #[.int .i64 0,.int .i64 0,.int .i64 0] 43)).heap.size=w12.heap.size+2:=by rw [World.size_alloc,hzb0]
 have hx15 : Ext w13b (World.alloc w13b (.cells #[.int .i64 0,.int .i64 0,.int .i64 0] 43)):=(Ext.refl _).alloc _
 obtain ⟨w15b,hw15⟩ : ∃ z,World.alloc w13b (.cells #[.int .i64 0,.int .i64 0,.int .i64 0] 43)=z:=⟨_,rfl⟩
 rw [hw15] at bP hx15 hza ⊢
 clear hw15
 clear hzb0
 have hzb1:=hza
 clear hza
 replace bM:=bM.ext hx15
 replace bA:=bA.ext hx15
 replace Gd:=Lib.hid (Fq.ext Gd.out hx15)
 have hF16:=Ext.trans hF14 hx15
 clear hzb1
 refine (monitor_Enter (hA.out.ext hF16) hn.out (hK.out.ext hF16) (hR.out.ext hF16)).mono ?_
 rintro e w17 ⟨vt,rfl,fM,hE17⟩
 replace bM:=bM.ext hE17
 replace bA:=bA.ext hE17
 replace bP:=bP.ext hE17
 replace Gd:=Lib.hid (Fq.ext Gd.out hE17)
 have hF17:=Ext.trans hF16 hE17
 rw [enterM_bad hb.out,hZm.out] at fM ⊢
 try dsimp only [Ptr.val,Ptr.zero] at fM ⊢
 obtain ⟨esa,ess,esr,rfl,qe⟩:=FrMon.parts fM
 clear fM
 obtain ⟨v_ea,v_eac,rfl,-⟩:=(qe.read).1.form
 obtain ⟨v_ek,v_ekc,rfl,-⟩:=(qe.read).2.1.form
 obtain ⟨v_er,v_erc,rfl,-⟩:=(qe.read).2.2.form
 try dsimp only at qe ⊢
 have Ge:=Lib.hid (Fq.mono (S':=(fun b=>True)) qe (fun b h1 _=>by exact trivial))
 clear qe
 clear Gd
 clear bA
 clear bP
 obtain ⟨bM_0,bM_1,bM_2,bM_3,bM_4,bM_5,bM_l⟩:=bM.c6
 go_wp2_with fail
 clear bM_0 bM_1 bM_2 bM_3 bM_4 bM_5 bM_l
 have bA:=Box.new w17 28 #[.slice v_ea Z.mem.al.length v_eac,.int .i64 Z.mem.next,.slice v_ek Z.stks.length v_ekc,.slice v_er Z.run.length v_erc,.int .i64 Z.tag,.int .i64 Z.call]
 have hza : (World.alloc w17 (.cells #[.slice v_ea Z.mem.al.length v_eac,.int .i64 Z.mem.next,.slice v_ek Z.stks.length v_ekc,.slice v_er Z.run.length v_erc,.int .i64 Z.tag,.int .i64 Z.call] 28)).heap.size=w17.heap.size+1:=by rw [World.size_alloc]
 have hx18 : Ext w17 (World.alloc w17 (.cells #[.slice v_ea Z.mem.al.length v_eac,.int .i64 Z.mem.next,.slice v_ek Z.stks.length v_ekc,.slice v_er Z.run.length v_erc,.int .i64 Z.tag,.int .i64 Z.call] 28)):=(Ext.refl _).alloc _
 obtain ⟨w18b,hw18⟩ : ∃ z,World.alloc w17 (.cells #[.slice v_ea Z.mem.al.length v_eac,.int .i64 Z.mem.next,.slice v_ek Z.stks.length v_ekc,.slice v_er Z.run.length v_erc,.int .i64 Z.tag,.int .i64 Z.call] 28)=z:=⟨_,rfl⟩
 rw [hw18] at bA hx18 hza ⊢
 clear hw18
 have hzb0:=hza
 clear hza
 replace bM:=bM.ext hx18
 replace Ge:=Lib.hid (Fq.ext Ge.out hx18)
 have hF19:=Ext.trans hF17 hx18
 clear hzb0
 refine (monitor_Leave (hA.out.ext hF19) hn.out (hK.out.ext hF19) (hR.out.ext hF19)).mono ?_
 rintro e w20 ⟨vt,rfl,fM,hE20⟩
 replace bM:=bM.ext hE20
 replace bA:=bA.ext hE20
 replace Ge:=Lib.hid (Fq.ext Ge.out hE20)
 have hF20:=Ext.trans hF19 hE20
 rw [leaveM_bad hb.out,hZm.out] at fM ⊢
 try dsimp only [Ptr.val,Ptr.zero] at fM ⊢
 obtain ⟨fsa,fss,fsr,rfl,qf⟩:=FrMon.parts fM
 clear fM
 obtain ⟨v_fa,v_fac,rfl,-⟩:=(qf.read).1.form
 obtain ⟨v_fk,v_fkc,rfl,-⟩:=(qf.read).2.1.form
 obtain ⟨v_fr,v_frc,rfl,-⟩:=(qf.read).2.2.form
 try dsimp only at qf ⊢
 have Gf:=Lib.hid (Fq.mono (S':=(fun b=>True)) qf (fun b h1 _=>by exact trivial))
 clear qf
 clear Ge
 clear bA
 obtain ⟨bM_0,bM_1,bM_2,bM_3,bM_4,bM_5,bM_l⟩:=bM.c6
 go_wp2_with fail
 clear bM_0 bM_1 bM_2 bM_3 bM_4 bM_5 bM_l
 have bA:=Box.new w20 28 #[.slice v_fa Z.mem.al.length v_fac,.int .i64 Z.mem.next,.slice v_fk Z.stks.length v_fkc,.slice v_fr Z.run.length v_frc,.int .i64 Z.tag,.int .i64 Z.call]
 have hza : (World.alloc w20 (.cells #[.slice v_fa Z.mem.al.length v_fac,.int .i64 Z.mem.next,.slice v_fk Z.stks.length v_fkc,.slice v_fr Z.run.length v_frc,.int .i64 Z.tag,.int .i64 Z.call] 28)).heap.size=w20.heap.size+1:=by rw [World.size_alloc]
 have hx21 : Ext w20 (World.alloc w20 (.cells #[.slice v_fa Z.mem.al.length v_fac,.int .i64 Z.mem.next,.slice v_fk Z.stks.length v_fkc,.slice v_fr Z.run.length v_frc,.int .i64 Z.tag,.int .i64 Z.call] 28)):=(Ext.refl _).alloc _
 obtain ⟨w21b,hw21⟩ : ∃ z,World.alloc w20 (.cells #[.slice v_fa Z.mem.al.length v_fac,.int .i64 Z.mem.next,.slice v_fk Z.stks.length v_fkc,.slice v_fr Z.run.length v_frc,.int .i64 Z.tag,.int .i64 Z.call] 28)=z:=⟨_,rfl⟩
 rw [hw21] at bA hx21 hza ⊢
 clear hw21
 have hzb0:=hza
 clear hza
 replace bM:=bM.ext hx21
 replace Gf:=Lib.hid (Fq.ext Gf.out hx21)
 have hF22:=Ext.trans hF20 hx21
 clear hzb0
 refine (monitor_End (-1) (hA.out.ext hF22) hn.out (hK.out.ext hF22) (hR.out.ext hF22)).mono ?_
 rintro e w23 ⟨vt,rfl,fM,hE23⟩
 replace bM:=bM.ext hE23
 replace bA:=bA.ext hE23
 replace Gf:=Lib.hid (Fq.ext Gf.out hE23)
 have hF23:=Ext.trans hF22 hE23
 rw [endM_bad hb.out,hZm.out] at fM ⊢
 try dsimp only [Ptr.val,Ptr.zero] at fM ⊢
 obtain ⟨gsa,gss,gsr,rfl,qg⟩:=FrMon.parts fM
 clear fM
 obtain ⟨v_ga,v_gac,rfl,-⟩:=(qg.read).1.form
 obtain ⟨v_gk,v_gkc,rfl,-⟩:=(qg.read).2.1.form
 obtain ⟨v_gr,v_grc,rfl,-⟩:=(qg.read).2.2.form
 try dsimp only at qg ⊢
 have Gg:=Lib.hid (Fq.mono (S':=(fun b=>True)) qg (fun b h1 _=>by exact trivial))
 clear qg
 clear Gf
 clear bA
 obtain ⟨bM_0,bM_1,bM_2,bM_3,bM_4,bM_5,bM_l⟩:=bM.c6
 go_wp2_with fail
 clear bM_0 bM_1 bM_2 bM_3 bM_4 bM_5 bM_l
 have bA:=Box.new w23 28 #[.slice v_ga Z.mem.al.length v_gac,.int .i64 Z.mem.next,.slice v_gk Z.stks.length v_gkc,.slice v_gr Z.run.length v_grc,.int .i64 Z.tag,.int .i64 Z.call]
 have hza : (World.alloc w23 (.cells #[.slice v_ga Z.mem.al.length v_gac,.int .i64 Z.mem.next,.slice v_gk Z.stks.length v_gkc,.slice v_gr Z.run.length v_grc,.int .i64 Z.tag,.int .i64 Z.call] 28)).heap.size=w23.heap.size+1:=by rw [World.size_alloc]
 have hx24 : Ext w23 (World.alloc w23 (.cells #[.slice v_ga Z.mem.al.length v_gac,.int .i64 Z.mem.next,.slice v_gk Z.stks.length v_gkc,.slice v_gr Z.run.length v_grc,.int .i64 Z.tag,.int .i64 Z.call] 28)):=(Ext.refl _).alloc _
 obtain ⟨w24b,hw24⟩ : ∃ z,World.alloc w23 (.cells #[.slice v_ga Z.mem.al.length v_gac,.int .i64 Z.mem.next,.slice v_gk Z.stks.length v_gkc,.slice v_gr Z.run.length v_grc,.int .i64 Z.tag,.int .i64 Z.call] 28)=z:=⟨_,rfl⟩
 rw [hw24] at bA hx24 hza ⊢
 clear hw24
 have hzb0:=hza
 clear hza
 replace bM:=bM.ext hx24
 replace Gg:=Lib.hid (Fq.ext Gg.out hx24)
 have hF25:=Ext.trans hF23 hx24
 clear hzb0
 refine (monitor_Forget (hA.out.ext hF25) hn.out (hK.out.ext hF25) (hR.out.ext hF25)).mono ?_
 rintro e w26 ⟨vt,rfl,fM,hE26⟩
 replace bM:=bM.ext hE26
 replace bA:=bA.ext hE26
 replace Gg:=Lib.hid (Fq.ext Gg.out hE26)
 have hF26:=Ext.trans hF25 hE26
 rw [forgetM_bad hb.out,hZm.out] at fM ⊢
 try dsimp only [Ptr.val,Ptr.zero] at fM ⊢
 obtain ⟨hsa,hss,hsr,rfl,qh⟩:=FrMon.parts fM
 clear fM
 obtain ⟨v_ha,v_hac,rfl,-⟩:=(qh.read).1.form
 obtain ⟨v_hk,v_hkc,rfl,-⟩:=(qh.read).2.1.form
 obtain ⟨v_hr,v_hrc,rfl,-⟩:=(qh.read).2.2.form
 try dsimp only at qh ⊢
 have Gh:=Lib.hid (Fq.mono (S':=(fun b=>True)) qh (fun b h1 _=>by exact trivial))
 clear qh
 clear Gg
 clear bA
 obtain ⟨bM_0,bM_1,bM_2,bM_3,bM_4,bM_5,bM_l⟩:=bM.c6
 go_wp2_with fail
 clear bM_0 bM_1 bM_2 bM_3 bM_4 bM_5 bM_l
 have bA:=Box.new w26 28 #[.slice v_ha Z.mem.al.length v_hac,.int .i64 Z.mem.next,.slice v_hk Z.stks.length v_hkc,.slice v_hr Z.run.length v_hrc,.int .i64 Z.tag,.int .i64 Z.call]
 have hza : (World.alloc w26 (.cells #[.slice v_ha Z.mem.al.length v_hac,.int .i64 Z.mem.next,.slice v_hk Z.stks.length v_hkc,.slice v_hr Z.run.length v_hrc,.int .i64 Z.tag,.int .i64 Z.call] 28)).heap.size=w26.heap.size+1:=by rw [World.size_alloc]
 have hx27 : Ext w26 (World.alloc w26 (.cells #[.slice v_ha Z.mem.al.length v_hac,.int .i64 Z.mem.next,.slice v_hk Z.stks.length v_hkc,.slice v_hr Z.run.length v_hrc,.int .i64 Z.tag,.int .i64 Z.call] 28)):=(Ext.refl _).alloc _
 obtain ⟨w27b,hw27⟩ : ∃ z,World.alloc w26 (.cells #[.slice v_ha Z.mem.al.length v_hac,.int .i64 Z.mem.next,.slice v_hk Z.stks.length v_hkc,.slice v_hr Z.run.length v_hrc,.int .i64 Z.tag,.int .i64 Z.call] 28)=z:=⟨_,rfl⟩
 rw [hw27] at bA hx27 hza ⊢
 clear hw27
 have hzb0:=hza
 clear hza
 replace bM:=bM.ext hx27
 replace Gh:=Lib.hid (Fq.ext Gh.out hx27)
 have hF28:=Ext.trans hF26 hx27
 clear hzb0
 refine (mon_Check' (hA.out.ext hF28) hn.out (hK.out.ext hF28) (hR.out.ext hF28)).mono ?_
 rintro e w29 ⟨rfl,hE29⟩
 replace bM:=bM.ext hE29
 replace bA:=bA.ext hE29
 replace Gh:=Lib.hid (Fq.ext Gh.out hE29)
 have hF29:=Ext.trans hF28 hE29
 rw [monErr_bad hb.out]
 clear Gh
 clear bA
 go_wp2
 go_ret
 exact ⟨rfl,hF29⟩
theorem Sl.of_boxN {w : World} {b k n : Nat} {e : TypeId} {vs : Array Value} (h : Box w b e vs) (hs : vs.size=n * k) (hm : n≤maxLen) : Sl w k (.slice (some ⟨b,0,none⟩) n n) n vs.toList:=by
 refine ⟨by simpa using hs,_,_,rfl,Nat.le_refl _,hm,fun h=>(by cases h),fun j u hj=>⟨b,0,rfl,?_⟩⟩
 rw [Nat.zero_add,h.cell j]
 simpa using hj
set_option maxRecDepth 100000 in
set_option maxHeartbeats 3200000 in
theorem law35_given (wS : World) : Calls Tryz.prog 6 #[] wS fun e w' => ∃ v,e = .returned v∧FrMon wS w' v givenM∧Ext wS w':=by
 go_enter Tryz.func6,Tryz.ntmps6
 go_wp2_with fail
 have lowbR : Hid (wS.heap.size≤wS.heap.size):=Hid.mk (by have h9:=Ext.size (Ext.refl wS);omega)
 have bR:=Box.new wS 28 #[.slice none 0 0,.int .i64 0,.slice none 0 0,.slice none 0 0,.int .i64 0,.int .i64 0]
 have hza : (World.alloc wS (.cells #[.slice none 0 0,.int .i64 0,.slice none 0 0,.slice none 0 0,.int .i64 0,.int .i64 0] 28)).heap.size=wS.heap.size+1:=by rw [World.size_alloc]
 have hx1 : Ext wS (World.alloc wS (.cells #[.slice none 0 0,.int .i64 0,.slice none 0 0,.slice none 0 0,.int .i64 0,.int .i64 0] 28)):=(Ext.refl _).alloc _
 obtain ⟨w1b,hw1⟩ : ∃ z,World.alloc wS (.cells #[.slice none 0 0,.int .i64 0,.slice none 0 0,.slice none 0 0,.int .i64 0,.int .i64 0] 28)=z:=⟨_,rfl⟩
 rw [hw1] at bR hx1 hza ⊢
 clear hw1
 have hzb0:=hza
 clear hza
 have hF2:=Ext.trans (Ext.refl wS) hx1
 have ne_bR_bI : Hid (wS.heap.size≠wS.heap.size+1):=Hid.mk (by have hz9:=hzb0;have h9:=bR.lt;omega)
 have bI:=Box.new w1b 35 #[.int .u8 1,.int .i64 1,.int .i64 0]
 rw [hzb0] at bI
 have hza : (World.alloc w1b (.cells #[.int .u8 1,.int .i64 1,.int .i64 0] 35)).heap.size=wS.heap.size+2:=by rw [World.size_alloc,hzb0]
 have hx3 : Ext w1b (World.alloc w1b (.cells #[.int .u8 1,.int .i64 1,.int .i64 0] 35)):=(Ext.refl _).alloc _
 obtain ⟨w3b,hw3⟩ : ∃ z,World.alloc w1b (.cells #[.int .u8 1,.int .i64 1,.int .i64 0] 35)=z:=⟨_,rfl⟩
 rw [hw3] at bI hx3 hza ⊢
 clear hw3
 clear hzb0
 have hzb1:=hza
 clear hza
 replace bR:=bR.ext hx3
 have hF4:=Ext.trans hF2 hx3
 clear hzb1
 have ltbR:=Lib.hid bR.lt
 refine (law35_num 5 _).mono ?_
 rintro e w5 ⟨rfl,hE5⟩
 replace bR:=bR.ext hE5
 replace bI:=bI.ext hE5
 have hF5:=Ext.trans hF4 hE5
 dsimp only [Cell.val]
 clear ltbR
 have hzI : Hid (wS.heap.size≤w5.heap.size):=Lib.hid (Ext.size hF5)
 have bRc : Box (World.alloc (World.alloc (World.alloc (World.alloc (World.alloc w5 (.cells #[.int .u8 1,.int .i64 5,.int .i64 0,.int .i64 0,.int .i64 0,.int .u8 0,.int .i64 0,.int .i64 0,.int .i64 0,.int .i64 0] 54)) (.cells #[.int .i64 0,.bool true,.slice (some ⟨w5.heap.size,0,none⟩) 2 2] 40)) (.cells #[.slice (some ⟨wS.heap.size+1,0,none⟩) 1 1,.slice (some ⟨wS.heap.size+1,0,none⟩) 1 1] 37)) (.cells #[.int .i64 0,.slice (some ⟨w5.heap.size+1+1,0,none⟩) 2 2] 33)) (.cells #[.int .i64 1] 3)) (wS.heap.size) 28 #[.slice none 0 0,.int .i64 0,.slice none 0 0,.slice none 0 0,.int .i64 0,.int .i64 0]:=by repeat (first | exact bR | refine Box.ext ?_ ((Ext.refl _).alloc _))
 have bRc_0 : World.cell? (World.alloc (World.alloc (World.alloc (World.alloc (World.alloc w5 (.cells #[.int .u8 1,.int .i64 5,.int .i64 0,.int .i64 0,.int .i64 0,.int .u8 0,.int .i64 0,.int .i64 0,.int .i64 0,.int .i64 0] 54)) (.cells #[.int .i64 0,.bool true,.slice (some ⟨w5.heap.size,0,none⟩) 2 2] 40)) (.cells #[.slice (some ⟨wS.heap.size+1,0,none⟩) 1 1,.slice (some ⟨wS.heap.size+1,0,none⟩) 1 1] 37)) (.cells #[.int .i64 0,.slice (some ⟨w5.heap.size+1+1,0,none⟩) 2 2] 33)) (.cells #[.int .i64 1] 3)) ⟨wS.heap.size,0,none⟩=some (.slice none 0 0):=bRc.cell 0
 have bRf_0 : World.frozen? (World.alloc (World.alloc (World.alloc (World.alloc (World.alloc w5 (.cells #[.int .u8 1,.int .i64 5,.int .i64 0,.int .i64 0,.int .i64 0,.int .u8 0,.int .i64 0,.int .i64 0,.int .i64 0,.int .i64 0] 54)) (.cells #[.int .i64 0,.bool true,.slice (some ⟨w5.heap.size,0,none⟩) 2 2] 40)) (.cells #[.slice (some ⟨wS.heap.size+1,0,none⟩) 1 1,.slice (some ⟨wS.heap.size+1,0,none⟩) 1 1] 37)) (.cells #[.int .i64 0,.slice (some ⟨w5.heap.size+1+1,0,none⟩) 2 2] 33)) (.cells #[.int .i64 1] 3)) ⟨wS.heap.size,0,none⟩=false:=bRc.frozen 0
 have bRc_1 : World.cell? (World.alloc (World.alloc (World.alloc (World.alloc (World.alloc w5 (.cells #[.int .u8 1,.int .i64 5,.int .i64 0,.int .i64 0,.int .i64 0,.int .u8 0,.int .i64 0,.int .i64 0,.int .i64 0,.int .i64 0] 54)) (.cells #[.int .i64 0,.bool true,.slice (some ⟨w5.heap.size,0,none⟩) 2 2] 40)) (.cells #[.slice (some ⟨wS.heap.size+1,0,none⟩) 1 1,.slice (some ⟨wS.heap.size+1,0,none⟩) 1 1] 37)) (.cells #[.int .i64 0,.slice (some ⟨w5.heap.size+1+1,0,none⟩) 2 2] 33)) (.cells #[.int .i64 1] 3)) ⟨wS.heap.size,1,none⟩=some (.int .i64 0):=bRc.cell 1
 have bRf_1 : World.frozen? (World.alloc (World.alloc (World.alloc (World.alloc (World.alloc w5 (.cells #[.int .u8 1,.int .i64 5,.int .i64 0,.int .i64 0,.int .i64 0,.int .u8 0,.int .i64 0,.int .i64 0,.int .i64 0,.int .i64 0] 54)) (.cells #[.int .i64 0,.bool true,.slice (some ⟨w5.heap.size,0,none⟩) 2 2] 40)) (.cells #[.slice (some ⟨wS.heap.size+1,0,none⟩) 1 1,.slice (some ⟨wS.heap.size+1,0,none⟩) 1 1] 37)) (.cells #[.int .i64 0,.slice (some ⟨w5.heap.size+1+1,0,none⟩) 2 2] 33)) (.cells #[.int .i64 1] 3)) ⟨wS.heap.size,1,none⟩=false:=bRc.frozen 1
 have bRc_2 : World.cell? (World.alloc (World.alloc (World.alloc (World.alloc (World.alloc w5 (.cells #[.int .u8 1,.int .i64 5,.int .i64 0,.int .i64 0,.int .i64 0,.int .u8 0,.int .i64 0,.int .i64 0,.int .i64 0,.int .i64 0] 54)) (.cells #[.int .i64 0,.bool true,.slice (some ⟨w5.heap.size,0,none⟩) 2 2] 40)) (.cells #[.slice (some ⟨wS.heap.size+1,0,none⟩) 1 1,.slice (some ⟨wS.heap.size+1,0,none⟩) 1 1] 37)) (.cells #[.int .i64 0,.slice (some ⟨w5.heap.size+1+1,0,none⟩) 2 2] 33)) (.cells #[.int .i64 1] 3)) ⟨wS.heap.size,2,none⟩=some (.slice none 0 0):=bRc.cell 2
 have bRf_2 : World.frozen? (World.alloc (World.alloc (World.alloc (World.alloc (World.alloc w5 (.cells #[.int .u8 1,.int .i64 5,.int .i64 0,.int .i64 0,.int .i64 0,.int .u8 0,.int .i64 0,.int .i64 0,.int .i64 0,.int .i64 0] 54)) (.cells #[.int .i64 0,.bool true,.slice (some ⟨w5.heap.size,0,none⟩) 2 2] 40)) (.cells #[.slice (some ⟨wS.heap.size+1,0,none⟩) 1 1,.slice (some ⟨wS.heap.size+1,0,none⟩) 1 1] 37)) (.cells #[.int .i64 0,.slice (some ⟨w5.heap.size+1+1,0,none⟩) 2 2] 33)) (.cells #[.int .i64 1] 3)) ⟨wS.heap.size,2,none⟩=false:=bRc.frozen 2
 have bRc_3 : World.cell? (World.alloc (World.alloc (World.alloc (World.alloc (World.alloc w5 (.cells #[.int .u8 1,.int .i64 5,.int .i64 0,.int .i64 0,.int .i64 0,.int .u8 0,.int .i64 0,.int .i64 0,.int .i64 0,.int .i64 0] 54)) (.cells #[.int .i64 0,.bool true,.slice (some ⟨w5.heap.size,0,none⟩) 2 2] 40)) (.cells #[.slice (some ⟨wS.heap.size+1,0,none⟩) 1 1,.slice (some ⟨wS.heap.size+1,0,none⟩) 1 1] 37)) (.cells #[.int .i64 0,.slice (some ⟨w5.heap.size+1+1,0,none⟩) 2 2] 33)) (.cells #[.int .i64 1] 3)) ⟨wS.heap.size,3,none⟩=some (.slice none 0 0):=bRc.cell 3
 have bRf_3 : World.frozen? (World.alloc (World.alloc (World.alloc (World.alloc (World.alloc w5 (.cells #[.int .u8 1,.int .i64 5,.int .i64 0,.int .i64 0,.int .i64 0,.int .u8 0,.int .i64 0,.int .i64 0,.int .i64 0,.int .i64 0] 54)) (.cells #[.int .i64 0,.bool true,.slice (some ⟨w5.heap.size,0,none⟩) 2 2] 40)) (.cells #[.slice (some ⟨wS.heap.size+1,0,none⟩) 1 1,.slice (some ⟨wS.heap.size+1,0,none⟩) 1 1] 37)) (.cells #[.int .i64 0,.slice (some ⟨w5.heap.size+1+1,0,none⟩) 2 2] 33)) (.cells #[.int .i64 1] 3)) ⟨wS.heap.size,3,none⟩=false:=bRc.frozen 3
 have bRc_4 : World.cell? (World.alloc (World.alloc (World.alloc (World.alloc (World.alloc w5 (.cells #[.int .u8 1,.int .i64 5,.int .i64 0,.int .i64 0,.int .i64 0,.int .u8 0,.int .i64 0,.int .i64 0,.int .i64 0,.int .i64 0] 54)) (.cells #[.int .i64 0,.bool true,.slice (some ⟨w5.heap.size,0,none⟩) 2 2] 40)) (.cells #[.slice (some ⟨wS.heap.size+1,0,none⟩) 1 1,.slice (some ⟨wS.heap.size+1,0,none⟩) 1 1] 37)) (.cells #[.int .i64 0,.slice (some ⟨w5.heap.size+1+1,0,none⟩) 2 2] 33)) (.cells #[.int .i64 1] 3)) ⟨wS.heap.size,4,none⟩=some (.int .i64 0):=bRc.cell 4
 have bRf_4 : World.frozen? (World.alloc (World.alloc (World.alloc (World.alloc (World.alloc w5 (.cells #[.int .u8 1,.int .i64 5,.int .i64 0,.int .i64 0,.int .i64 0,.int .u8 0,.int .i64 0,.int .i64 0,.int .i64 0,.int .i64 0] 54)) (.cells #[.int .i64 0,.bool true,.slice (some ⟨w5.heap.size,0,none⟩) 2 2] 40)) (.cells #[.slice (some ⟨wS.heap.size+1,0,none⟩) 1 1,.slice (some ⟨wS.heap.size+1,0,none⟩) 1 1] 37)) (.cells #[.int .i64 0,.slice (some ⟨w5.heap.size+1+1,0,none⟩) 2 2] 33)) (.cells #[.int .i64 1] 3)) ⟨wS.heap.size,4,none⟩=false:=bRc.frozen 4
 have bRc_5 : World.cell? (World.alloc (World.alloc (World.alloc (World.alloc (World.alloc w5 (.cells #[.int .u8 1,.int .i64 5,.int .i64 0,.int .i64 0,.int .i64 0,.int .u8 0,.int .i64 0,.int .i64 0,.int .i64 0,.int .i64 0] 54)) (.cells #[.int .i64 0,.bool true,.slice (some ⟨w5.heap.size,0,none⟩) 2 2] 40)) (.cells #[.slice (some ⟨wS.heap.size+1,0,none⟩) 1 1,.slice (some ⟨wS.heap.size+1,0,none⟩) 1 1] 37)) (.cells #[.int .i64 0,.slice (some ⟨w5.heap.size+1+1,0,none⟩) 2 2] 33)) (.cells #[.int .i64 1] 3)) ⟨wS.heap.size,5,none⟩=some (.int .i64 0):=bRc.cell 5
 have bRf_5 : World.frozen? (World.alloc (World.alloc (World.alloc (World.alloc (World.alloc w5 (.cells #[.int .u8 1,.int .i64 5,.int .i64 0,.int .i64 0,.int .i64 0,.int .u8 0,.int .i64 0,.int .i64 0,.int .i64 0,.int .i64 0] 54)) (.cells #[.int .i64 0,.bool true,.slice (some ⟨w5.heap.size,0,none⟩) 2 2] 40)) (.cells #[.slice (some ⟨wS.heap.size+1,0,none⟩) 1 1,.slice (some ⟨wS.heap.size+1,0,none⟩) 1 1] 37)) (.cells #[.int .i64 0,.slice (some ⟨w5.heap.size+1+1,0,none⟩) 2 2] 33)) (.cells #[.int .i64 1] 3)) ⟨wS.heap.size,5,none⟩=false:=bRc.frozen 5
 have bR_l:=bR.lt
 go_wp2
 clear bR_l bRc bRc_0 bRf_0 bRc_1 bRf_1 bRc_2 bRf_2 bRc_3 bRf_3 bRc_4 bRf_4 bRc_5 bRf_5
 have ne_bR_bC : Hid (wS.heap.size≠w5.heap.size):=Hid.mk (by have h9:=bR.lt;omega)
 have bC:=Box.new w5 54 #[.int .u8 1,.int .i64 5,.int .i64 0,.int .i64 0,.int .i64 0,.int .u8 0,.int .i64 0,.int .i64 0,.int .i64 0,.int .i64 0]
 have hza : (World.alloc w5 (.cells #[.int .u8 1,.int .i64 5,.int .i64 0,.int .i64 0,.int .i64 0,.int .u8 0,.int .i64 0,.int .i64 0,.int .i64 0,.int .i64 0] 54)).heap.size=w5.heap.size+1:=by rw [World.size_alloc]
 have hx6 : Ext w5 (World.alloc w5 (.cells #[.int .u8 1,.int .i64 5,.int .i64 0,.int .i64 0,.int .i64 0,.int .u8 0,.int .i64 0,.int .i64 0,.int .i64 0,.int .i64 0] 54)):=(Ext.refl _).alloc _
 obtain ⟨w6b,hw6⟩ : ∃ z,World.alloc w5 (.cells #[.int .u8 1,.int .i64 5,.int .i64 0,.int .i64 0,.int .i64 0,.int .u8 0,.int .i64 0,.int .i64 0,.int .i64 0,.int .i64 0] 54)=z:=⟨_,rfl⟩
 rw [hw6] at bC hx6 hza ⊢
 clear hw6
 have hzb0:=hza
 clear hza
 replace bR:=bR.ext hx6
 replace bI:=bI.ext hx6
 have hF7:=Ext.trans hF5 hx6
 have ne_bR_bA : Hid (wS.heap.size≠w5.heap.size+1):=Hid.mk (by have hz9:=hzb0;have h9:=bR.lt;omega)
 have bA:=Box.new w6b 40 #[.int .i64 0,.bool true,.slice (some ⟨w5.heap.size,0,none⟩) 2 2]
 rw [hzb0] at bA
 have hza : (World.alloc w6b (.cells #[.int .i64 0,.bool true,.slice (some ⟨w5.heap.size,0,none⟩) 2 2] 40)).heap.size=w5.heap.size+2:=by rw [World.size_alloc,hzb0]
 have hx8 : Ext w6b (World.alloc w6b (.cells #[.int .i64 0,.bool true,.slice (some ⟨w5.heap.size,0,none⟩) 2 2] 40)):=(Ext.refl _).alloc _
 obtain ⟨w8b,hw8⟩ : ∃ z,World.alloc w6b (.cells #[.int .i64 0,.bool true,.slice (some ⟨w5.heap.size,0,none⟩) 2 2] 40)=z:=⟨_,rfl⟩
 rw [hw8] at bA hx8 hza ⊢
 clear hw8
 clear hzb0
 have hzb1:=hza
 clear hza
 replace bR:=bR.ext hx8
 replace bI:=bI.ext hx8
 replace bC:=bC.ext hx8
 have hF9:=Ext.trans hF7 hx8
 have ne_bR_bT : Hid (wS.heap.size≠w5.heap.size+2):=Hid.mk (by have hz9:=hzb1;have h9:=bR.lt;omega)
 have bT:=Box.new w8b 37 #[.slice (some ⟨wS.heap.size+1,0,none⟩) 1 1,.slice (some ⟨wS.heap.size+1,0,none⟩) 1 1]
 rw [hzb1] at bT
 have hza : (World.alloc w8b (.cells #[.slice (some ⟨wS.heap.size+1,0,none⟩) 1 1,.slice (some ⟨wS.heap.size+1,0,none⟩) 1 1] 37)).heap.size=w5.heap.size+3:=by rw [World.size_alloc,hzb1]
 have hx10 : Ext w8b (World.alloc w8b (.cells #[.slice (some ⟨wS.heap.size+1,0,none⟩) 1 1,.slice (some ⟨wS.heap.size+1,0,none⟩) 1 1] 37)):=(Ext.refl _).alloc _
 obtain ⟨w10b,hw10⟩ : ∃ z,World.alloc w8b (.cells #[.slice (some ⟨wS.heap.size+1,0,none⟩) 1 1,.slice (some ⟨wS.heap.size+1,0,none⟩) 1 1] 37)=z:=⟨_,rfl⟩
 rw [hw10] at bT hx10 hza ⊢
 clear hw10
 clear hzb1
 have hzb2:=hza
 clear hza
 replace bR:=bR.ext hx10
 replace bI:=bI.ext hx10
 replace bC:=bC.ext hx10
 replace bA:=bA.ext hx10
 have hF11:=Ext.trans hF9 hx10
 have ne_bR_bK : Hid (wS.heap.size≠w5.heap.size+3):=Hid.mk (by have hz9:=hzb2;have h9:=bR.lt;omega)
 have bK:=Box.new w10b 33 #[.int .i64 0,.slice (some ⟨w5.heap.size+1+1,0,none⟩) 2 2]
 rw [hzb2] at bK
 have hza : (World.alloc w10b (.cells #[.int .i64 0,.slice (some ⟨w5.heap.size+1+1,0,none⟩) 2 2] 33)).heap.size=w5.heap.size+4:=by rw [World.size_alloc,hzb2]
 have hx12 : Ext w10b (World.alloc w10b (.cells #[.int .i64 0,.slice (some ⟨w5.heap.size+1+1,0,none⟩) 2 2] 33)):=(Ext.refl _).alloc _
 obtain ⟨w12b,hw12⟩ : ∃ z,World.alloc w10b (.cells #[.int .i64 0,.slice (some ⟨w5.heap.size+1+1,0,none⟩) 2 2] 33)=z:=⟨_,rfl⟩
 rw [hw12] at bK hx12 hza ⊢
 clear hw12
 clear hzb2
 have hzb3:=hza
 clear hza
 replace bR:=bR.ext hx12
 replace bI:=bI.ext hx12
 replace bC:=bC.ext hx12
 replace bA:=bA.ext hx12
 replace bT:=bT.ext hx12
 have hF13:=Ext.trans hF11 hx12
 have ne_bR_bU : Hid (wS.heap.size≠w5.heap.size+4):=Hid.mk (by have hz9:=hzb3;have h9:=bR.lt;omega)
 have bU:=Box.new w12b 3 #[.int .i64 1]
 rw [hzb3] at bU
 have hza : (World.alloc w12b (.cells #[.int .i64 1] 3)).heap.size=w5.heap.size+5:=by rw [World.size_alloc,hzb3]
 have hx14 : Ext w12b (World.alloc w12b (.cells #[.int .i64 1] 3)):=(Ext.refl _).alloc _
 obtain ⟨w14b,hw14⟩ : ∃ z,World.alloc w12b (.cells #[.int .i64 1] 3)=z:=⟨_,rfl⟩
 rw [hw14] at bU hx14 hza ⊢
 clear hw14
 clear hzb3
 have hzb4:=hza
 clear hza
 replace bR:=bR.ext hx14
 replace bI:=bI.ext hx14
 replace bC:=bC.ext hx14
 replace bA:=bA.ext hx14
 replace bT:=bT.ext hx14
 replace bK:=bK.ext hx14
 have hF15:=Ext.trans hF13 hx14
 clear hzb4
 have hS16 : ExtBut (fun b=>b=wS.heap.size∨False) w14b (World.setCell (World.setCell (World.setCell (World.setCell (World.setCell (World.setCell w14b ⟨wS.heap.size,0,none⟩ (.slice (some ⟨w5.heap.size+1,0,none⟩) 1 1)) ⟨wS.heap.size,1,none⟩ (.int .i64 2)) ⟨wS.heap.size,2,none⟩ (.slice (some ⟨w5.heap.size+1+1+1,0,none⟩) 1 1)) ⟨wS.heap.size,3,none⟩ (.slice (some ⟨w5.heap.size+1+1+1+1,0,none⟩) 1 1)) ⟨wS.heap.size,4,none⟩ (.int .i64 2)) ⟨wS.heap.size,5,none⟩ (.int .i64 2)):=by (repeat' with_reducible first | exact ExtBut.refl _ _ | refine ExtBut.dr ?_ | refine ExtBut.sc ?_ ?_ | fail) <;> dsimp only <;> omega
 replace bR:=(Box.setL (Box.setL (Box.setL (Box.setL (Box.setL (Box.setL bR 0 (.slice (some ⟨w5.heap.size+1,0,none⟩) 1 1)) 1 (.int .i64 2)) 2 (.slice (some ⟨w5.heap.size+1+1+1,0,none⟩) 1 1)) 3 (.slice (some ⟨w5.heap.size+1+1+1+1,0,none⟩) 1 1)) 4 (.int .i64 2)) 5 (.int .i64 2))
 simp only [List.set_cons_zero,List.set_cons_succ] at bR
 replace bI:=(Box.other (Box.other (Box.other (Box.other (Box.other (Box.other bI (p:=⟨wS.heap.size,0,none⟩) (ne_bR_bI.out) (.slice (some ⟨w5.heap.size+1,0,none⟩) 1 1)) (p:=⟨wS.heap.size,1,none⟩) (ne_bR_bI.out) (.int .i64 2)) (p:=⟨wS.heap.size,2,none⟩) (ne_bR_bI.out) (.slice (some ⟨w5.heap.size+1+1+1,0,none⟩) 1 1)) (p:=⟨wS.heap.size,3,none⟩) (ne_bR_bI.out) (.slice (some ⟨w5.heap.size+1+1+1+1,0,none⟩) 1 1)) (p:=⟨wS.heap.size,4,none⟩) (ne_bR_bI.out) (.int .i64 2)) (p:=⟨wS.heap.size,5,none⟩) (ne_bR_bI.out) (.int .i64 2))
 replace bC:=(Box.other (Box.other (Box.other (Box.other (Box.other (Box.other bC (p:=⟨wS.heap.size,0,none⟩) (ne_bR_bC.out) (.slice (some ⟨w5.heap.size+1,0,none⟩) 1 1)) (p:=⟨wS.heap.size,1,none⟩) (ne_bR_bC.out) (.int .i64 2)) (p:=⟨wS.heap.size,2,none⟩) (ne_bR_bC.out) (.slice (some ⟨w5.heap.size+1+1+1,0,none⟩) 1 1)) (p:=⟨wS.heap.size,3,none⟩) (ne_bR_bC.out) (.slice (some ⟨w5.heap.size+1+1+1+1,0,none⟩) 1 1)) (p:=⟨wS.heap.size,4,none⟩) (ne_bR_bC.out) (.int .i64 2)) (p:=⟨wS.heap.size,5,none⟩) (ne_bR_bC.out) (.int .i64 2))
 replace bA:=(Box.other (Box.other (Box.other (Box.other (Box.other (Box.other bA (p:=⟨wS.heap.size,0,none⟩) (ne_bR_bA.out) (.slice (some ⟨w5.heap.size+1,0,none⟩) 1 1)) (p:=⟨wS.heap.size,1,none⟩) (ne_bR_bA.out) (.int .i64 2)) (p:=⟨wS.heap.size,2,none⟩) (ne_bR_bA.out) (.slice (some ⟨w5.heap.size+1+1+1,0,none⟩) 1 1)) (p:=⟨wS.heap.size,3,none⟩) (ne_bR_bA.out) (.slice (some ⟨w5.heap.size+1+1+1+1,0,none⟩) 1 1)) (p:=⟨wS.heap.size,4,none⟩) (ne_bR_bA.out) (.int .i64 2)) (p:=⟨wS.heap.size,5,none⟩) (ne_bR_bA.out) (.int .i64 2))
 replace bT:=(Box.other (Box.other (Box.other (Box.other (Box.other (Box.other bT (p:=⟨wS.heap.size,0,none⟩) (ne_bR_bT.out) (.slice (some ⟨w5.heap.size+1,0,none⟩) 1 1)) (p:=⟨wS.heap.size,1,none⟩) (ne_bR_bT.out) (.int .i64 2)) (p:=⟨wS.heap.size,2,none⟩) (ne_bR_bT.out) (.slice (some ⟨w5.heap.size+1+1+1,0,none⟩) 1 1)) (p:=⟨wS.heap.size,3,none⟩) (ne_bR_bT.out) (.slice (some ⟨w5.heap.size+1+1+1+1,0,none⟩) 1 1)) (p:=⟨wS.heap.size,4,none⟩) (ne_bR_bT.out) (.int .i64 2)) (p:=⟨wS.heap.size,5,none⟩) (ne_bR_bT.out) (.int .i64 2))
 replace bK:=(Box.other (Box.other (Box.other (Box.other (Box.other (Box.other bK (p:=⟨wS.heap.size,0,none⟩) (ne_bR_bK.out) (.slice (some ⟨w5.heap.size+1,0,none⟩) 1 1)) (p:=⟨wS.heap.size,1,none⟩) (ne_bR_bK.out) (.int .i64 2)) (p:=⟨wS.heap.size,2,none⟩) (ne_bR_bK.out) (.slice (some ⟨w5.heap.size+1+1+1,0,none⟩) 1 1)) (p:=⟨wS.heap.size,3,none⟩) (ne_bR_bK.out) (.slice (some ⟨w5.heap.size+1+1+1+1,0,none⟩) 1 1)) (p:=⟨wS.heap.size,4,none⟩) (ne_bR_bK.out) (.int .i64 2)) (p:=⟨wS.heap.size,5,none⟩) (ne_bR_bK.out) (.int .i64 2))
 replace bU:=(Box.other (Box.other (Box.other (Box.other (Box.other (Box.other bU (p:=⟨wS.heap.size,0,none⟩) (ne_bR_bU.out) (.slice (some ⟨w5.heap.size+1,0,none⟩) 1 1)) (p:=⟨wS.heap.size,1,none⟩) (ne_bR_bU.out) (.int .i64 2)) (p:=⟨wS.heap.size,2,none⟩) (ne_bR_bU.out) (.slice (some ⟨w5.heap.size+1+1+1,0,none⟩) 1 1)) (p:=⟨wS.heap.size,3,none⟩) (ne_bR_bU.out) (.slice (some ⟨w5.heap.size+1+1+1+1,0,none⟩) 1 1)) (p:=⟨wS.heap.size,4,none⟩) (ne_bR_bU.out) (.int .i64 2)) (p:=⟨wS.heap.size,5,none⟩) (ne_bR_bU.out) (.int .i64 2))
 obtain ⟨w16s,hw16⟩ : ∃ z,(World.setCell (World.setCell (World.setCell (World.setCell (World.setCell (World.setCell w14b ⟨wS.heap.size,0,none⟩ (.slice (some ⟨w5.heap.size+1,0,none⟩) 1 1)) ⟨wS.heap.size,1,none⟩ (.int .i64 2)) ⟨wS.heap.size,2,none⟩ (.slice (some ⟨w5.heap.size+1+1+1,0,none⟩) 1 1)) ⟨wS.heap.size,3,none⟩ (.slice (some ⟨w5.heap.size+1+1+1+1,0,none⟩) 1 1)) ⟨wS.heap.size,4,none⟩ (.int .i64 2)) ⟨wS.heap.size,5,none⟩ (.int .i64 2))=z:=⟨_,rfl⟩
 rw [hw16] at hS16 bR bI bC bA bT bK bU ⊢
 clear hw16
 have hF16:=ExtBut.ext hF15 hS16 (fun b h=>by rcases h with h | h;(rw [h];exact lowbR.out);exact h.elim)
 clear hS16
 obtain ⟨bR_0,bR_1,bR_2,bR_3,bR_4,bR_5,bR_l⟩:=bR.c6
 refine bodyPost_ret (v := .agg #[.slice (some ⟨w5.heap.size+1,0,none⟩) 1 1,.int .i64 2,.slice (some ⟨w5.heap.size+1+1+1,0,none⟩) 1 1,.slice (some ⟨w5.heap.size+1+1+1+1,0,none⟩) 1 1,.int .i64 2,.int .i64 2]) (by simp [results,Tryz.f6,go_sem,bR_0,bR_1,bR_2,bR_3,bR_4,bR_5]) rfl ?_
 have key : ∀ w'' : World,(∀ b,wS.heap.size≤b→b < w16s.heap.size→w''.heap[b]? = w16s.heap[b]?)→Als w'' (.slice (some ⟨w5.heap.size+1,0,none⟩) 1 1) givenM.mem.al∧Kts w'' (.slice (some ⟨w5.heap.size+1+1+1,0,none⟩) 1 1) givenM.stks∧Nts w'' (.slice (some ⟨w5.heap.size+1+1+1+1,0,none⟩) 1 1) givenM.run:=fun w'' hb=>by
  have q1:=hzI.out
  have cI:=(hb _ (by omega) bI.lt).trans bI
  have cC:=(hb _ (by omega) bC.lt).trans bC
  have cA:=(hb _ (by omega) bA.lt).trans bA
  have cT:=(hb _ (by omega) bT.lt).trans bT
  have cK:=(hb _ (by omega) bK.lt).trans bK
  have cU:=(hb _ (by omega) bU.lt).trans bU
  have sI : Sl w'' 3 (.slice (some ⟨wS.heap.size+1,0,none⟩) 1 1) 1 _:=Sl.of_boxN cI rfl (by simp [maxLen])
  have sC : Sl w'' 5 (.slice (some ⟨w5.heap.size,0,none⟩) 2 2) 2 _:=Sl.of_boxN cC rfl (by simp [maxLen])
  have sA : Sl w'' 3 (.slice (some ⟨w5.heap.size+1,0,none⟩) 1 1) 1 _:=Sl.of_boxN cA rfl (by simp [maxLen])
  have sT : Sl w'' 1 (.slice (some ⟨w5.heap.size+1+1,0,none⟩) 2 2) 2 _:=Sl.of_boxN cT rfl (by simp [maxLen])
  have sK : Sl w'' 2 (.slice (some ⟨w5.heap.size+1+1+1,0,none⟩) 1 1) 1 _:=Sl.of_boxN cK rfl (by simp [maxLen])
  have sU : Sl w'' 1 (.slice (some ⟨w5.heap.size+1+1+1+1,0,none⟩) 1 1) 1 _:=Sl.of_boxN cU rfl (by simp [maxLen])
  exact ⟨⟨[_],⟨sC,trivial⟩,sA⟩,⟨[_],⟨⟨[_,_],⟨sI,sI,trivial⟩,sT⟩,trivial⟩,sK⟩,sU⟩
 exact ⟨_,rfl,FrMon.of_fs (m:=givenM) (fun w'' hb=>(key w'' hb).1) (fun w'' hb=>(key w'' hb).2.1) (fun w'' hb=>(key w'' hb).2.2),hF16⟩
end Go.Proofs.YtepdbdckjmkbhaaGreatDoor

/- MonitorNames: the monitors of its second half aas data, and what the functions give on them; no program in sight. -/
namespace Go.Proofs.YtepdbdckjmkbhaaGreatDoor
set_option maxRecDepth 100000
open Go.RowKit
def upto35 (n : Nat) : List Int:=(List.range n).map (fun (k : Nat)=>(k : Int)+1)
theorem upto35_succ (n : Nat) : upto35 (n+1)=upto35 n ++ [(n : Int)+1]:=by simp [upto35,List.range_succ]
def fullM : Mon:=⟨⟨[⟨0,true,[⟨1,5,0,0,0⟩,Cell.zero]⟩],2⟩,[⟨0,[[⟨1,1,0⟩],[⟨1,1,0⟩]]⟩],[1],1000000,2⟩
def full2M : Mon:=⟨⟨[⟨0,true,[⟨1,5,0,0,0⟩,Cell.zero]⟩],2⟩,[⟨0,[[⟨1,1,0⟩],[⟨1,1,0⟩]]⟩],[1],1000000,1000000⟩
def manyM : Mon:=⟨⟨[⟨0,true,[⟨1,5,0,0,0⟩,Cell.zero]⟩],2⟩,[⟨0,[[⟨1,1,0⟩],[⟨1,1,0⟩]]⟩],upto35 32,2,50⟩
theorem nx35 : i64B (2 : Int):=by unfold i64B;decide
theorem d35a : ∃ x q,allocM fullM 1=(x,q,18):=⟨_,_,Prod.ext rfl (Prod.ext rfl (by decide +kernel))⟩
theorem d35b : ∃ x q,allocM fullM 3=(x,q,2):=⟨_,_,Prod.ext rfl (Prod.ext rfl (by decide +kernel))⟩
theorem d35c : ∃ x q,retagM fullM ⟨0,0,1⟩ 1 2 0=(x,q,0,18):=⟨_,_,Prod.ext rfl (Prod.ext rfl (by decide +kernel))⟩
theorem d35d : ∃ x q,retagM fullM ⟨0,0,1⟩ 3 2 0=(x,q,0,2):=⟨_,_,Prod.ext rfl (Prod.ext rfl (by decide +kernel))⟩
theorem d35e : ∃ x q,retagM givenM ⟨0,0,1⟩ 1 0 0=(x,q,0,2):=⟨_,_,Prod.ext rfl (Prod.ext rfl (by decide +kernel))⟩
theorem d35f : ∃ x q,retagM givenM ⟨0,0,1⟩ 1 5 0=(x,q,0,2):=⟨_,_,Prod.ext rfl (Prod.ext rfl (by decide +kernel))⟩
theorem d35g : ∃ x q,retagM givenM ⟨0,0,1⟩ 1 2 2=(x,q,0,2):=⟨_,_,Prod.ext rfl (Prod.ext rfl (by decide +kernel))⟩
theorem d35h : ∃ x q,retagM givenM ⟨1,0,0⟩ 1 2 1=(x,q,3,0):=⟨_,_,Prod.ext rfl (Prod.ext rfl (by decide +kernel))⟩
theorem d35i : ∃ x l,loadM givenM ⟨0,0,1⟩ 2=(x,l,4,0):=⟨_,_,Prod.ext rfl (Prod.ext rfl (by decide +kernel))⟩
theorem d35j : ∃ x l,loadM givenM ⟨0,0,9⟩ 2=(x,l,1,0):=⟨_,_,Prod.ext rfl (Prod.ext rfl (by decide +kernel))⟩
theorem d35k : ∃ x,storeM givenM ⟨1,9,0⟩ [⟨1,1,0,0,0⟩]=(x,3,0):=⟨_,Prod.ext rfl (by decide +kernel)⟩
theorem d35l : ∃ x,storeM givenM ⟨0,0,1⟩ [⟨9,0,0,0,0⟩]=(x,0,8):=⟨_,Prod.ext rfl (by decide +kernel)⟩
theorem d35n : ∃ x,endM givenM 1=(x,0,6):=⟨_,Prod.ext rfl (by decide +kernel)⟩
theorem d35o : ∃ o x r y l,endM givenM 0=(o,0,0)∧i64B o.mem.next∧forgetM o=(r,0)∧loadM o ⟨0,0,1⟩ 1=(y,l,3,0)∧r.stks=[]∧r.mem.al=[]∧r.mem.next=2∧x=0 :=
 ⟨(endM givenM 0).1,0,(forgetM (endM givenM 0).1).1,_,_,Prod.ext rfl (by decide +kernel),by unfold i64B;decide +kernel,Prod.ext rfl (by decide +kernel),Prod.ext rfl (Prod.ext rfl (by decide +kernel)),by decide +kernel,by decide +kernel,by decide +kernel,rfl⟩
theorem d35r : ∃ h q x y l z u,retagM givenM ⟨0,0,1⟩ 2 1 1=(h,q,0,0)∧i64B h.mem.next∧endM h 0=(x,2,0)∧storeM h ⟨0,0,1⟩ [⟨1,1,0,0,0⟩]=(y,2,0)∧leaveM h=(l,0)∧i64B l.mem.next∧endM l 0=(z,0,0)∧leaveM l=(u,6) :=
 ⟨(retagM givenM ⟨0,0,1⟩ 2 1 1).1,(retagM givenM ⟨0,0,1⟩ 2 1 1).2.1,_,_,(leaveM (retagM givenM ⟨0,0,1⟩ 2 1 1).1).1,_,_,Prod.ext rfl (Prod.ext rfl (by decide +kernel)),by unfold i64B;decide +kernel,Prod.ext rfl (by decide +kernel),Prod.ext rfl (by decide +kernel),Prod.ext rfl (by decide +kernel),
 by unfold i64B;decide +kernel,Prod.ext rfl (by decide +kernel),Prod.ext rfl (by decide +kernel)⟩
theorem d35x : ∃ x c,enterM manyM=(x,c,18):=⟨_,_,Prod.ext rfl (Prod.ext rfl (by decide +kernel))⟩
theorem d35y : ∃ x c,enterM full2M=(x,c,18):=⟨_,_,Prod.ext rfl (Prod.ext rfl (by decide +kernel))⟩
end Go.Proofs.YtepdbdckjmkbhaaGreatDoor

/- A region in the text's order, by what each operation leaves in its slot, guards included. -/
namespace Go.Proofs.YtepdbdckjmkbhaaGreatDoor
set_option maxRecDepth 100000
open Go
section
variable {P : Program} {ops : Array Oper} {Q : Exit→Act→World→Prop}
def SI (ops : Array Oper) (L : List Pr) (a0 : Act) (w0 : World) (n : Nat) (a : Act) (w : World) : Prop :=
 a.defers=a0.defers∧a.tmps.size=a0.tmps.size∧(∀ t,(∀ o ∈ ops.toList,o.dst≠some t)→a.tmps[t]? = a0.tmps[t]?)∧(∀ i,i < n→i < ops.size→prAt L i (a.eval (.tmp (dstOf ops i))) w)∧Ext w0 w
theorem wp_region_seq {id : Nat} {a0 : Act} {w0 : World} (L : List Pr) (hok : regOG .any ops a0.tmps.size=true)
  (hs : AllSteps (StepGo P .any ops Q L a0 w0) ops.toList 0)
  (he : ∀ (vals : Nat→Value) (w : World),Ext w0 w→(∀ i,i < ops.size→prAt L i (vals i) w)→Q .normal (putAll vals ops.toList 0 a0) w) :
  (Code.region id ops false).wp P Q a0 w0:=by
 unfold regOG at hok
 simp only [Bool.and_eq_true,decide_eq_true_eq] at hok
 obtain ⟨⟨h1,h2⟩,h3⟩:=hok
 have hdst : ∀ (i : Nat) (o : Oper),ops[i]? = some o → ∃ d,o.dst=some d∧d < a0.tmps.size:=by
  intro i o ho
  have hm' : o ∈ ops.toList:=by rw [Array.mem_toList_iff];exact Array.mem_of_getElem? ho
  have:=List.all_eq_true.1 h1 o hm'
  cases hd : o.dst with
  | none=>rw [hd] at this;simp at this
  | some d=>rw [hd] at this;exact ⟨d,rfl,by simpa using this⟩
 have hafter : ∀ (i : Nat) (o : Oper),ops[i]? = some o → ∀ e ∈ o.after,Region.binds .any e=true→e.on < i:=by
  intro i o ho e hea hb
  have hi:=(Array.getElem?_eq_some_iff.1 ho).1
  have:=List.all_eq_true.1 h3 i (List.mem_range.2 hi)
  rw [ho] at this
  simp only [Option.map_some,Option.getD_some,Array.all_eq_true_iff_forall_mem] at this
  have:=this e hea
  simpa [hb] using this
 have hinj : ∀ (i j : Nat) (o u : Oper),ops[i]? = some o→ops[j]? = some u→o.dst=u.dst→i=j:=by
  intro i j o u hi hj hd
  have hi' : (ops.toList.map (·.dst))[i]? = some o.dst:=by rw [List.getElem?_map,Array.getElem?_toList,hi];rfl
  have hj' : (ops.toList.map (·.dst))[j]? = some o.dst:=by rw [List.getElem?_map,Array.getElem?_toList,hj,hd];rfl
  exact (List.getElem?_inj (by rw [List.length_map,Array.length_toList];exact (Array.getElem?_eq_some_iff.1 hi).1) h2).1 (hi'.trans hj'.symm)
 have key : ∀ (m n : Nat),n+m=ops.size → ∀ (a : Act) (w : World),SI ops L a0 w0 n a w→wpList P ops Q (ops.toList.drop n) a w:=by
  intro m
  induction m with
  | zero =>
   intro n hn a w ⟨r2,r3,r4,r5,r6⟩
   rw [List.drop_of_length_le (by simp;omega)]
   have hv:=he (fun i=>a.eval (.tmp (dstOf ops i))) w r6 (fun i hi=>r5 i (by omega) hi)
   have : putAll (fun i=>a.eval (.tmp (dstOf ops i))) ops.toList 0 a0=a:=by
    have e1 : (putAll (fun i=>a.eval (.tmp (dstOf ops i))) ops.toList 0 a0).tmps=a.tmps:=by
     apply Array.ext_getElem?
     intro t
     by_cases hx : ∃ o ∈ ops.toList,o.dst=some t
     ·obtain ⟨o,hom,hd⟩:=hx
      obtain ⟨i,hi⟩:=List.mem_iff_getElem?.1 hom
      have ho : ops[i]? = some o:=by rw [← Array.getElem?_toList];exact hi
      obtain ⟨d,hd',hdn⟩:=hdst i o ho
      rw [hd] at hd'
      cases hd'
      rw [putAll_eq _ ops.toList 0 a0 i o h2 hi hd hdn,Nat.zero_add]
      show some (a.eval (.tmp (dstOf ops i)))=_
      unfold dstOf
      rw [ho,Option.bind_some,hd,Option.getD_some,eval_tmp,Array.getElem?_eq_getElem (by rw [r3];exact hdn)]
      rfl
     ·have hx' : ∀ o ∈ ops.toList,o.dst≠some t:=fun o h1 h2=>hx ⟨o,h1,h2⟩
      rw [putAll_ne _ _ _ _ hx',r4 t hx']
    have e2:=putAll_def (fun i=>a.eval (.tmp (dstOf ops i))) ops.toList 0 a0
    rw [← r2] at e2
    cases a
    cases hp : putAll (fun i=>_) ops.toList 0 a0
    simp_all
   rw [this] at hv
   exact hv
  | succ m ih =>
   intro n hn a w ⟨r2,r3,r4,r5,r6⟩
   have hnl : n < ops.toList.length:=by simp;omega
   obtain ⟨o,ho⟩ : ∃ o,ops[n]? = some o:=⟨ops[n]'(by omega),by simp [show n < ops.size by omega]⟩
   have hol : ops.toList[n]=o:=by
    have : ops.toList[n]? = some o:=by rw [Array.getElem?_toList];exact ho
    rw [List.getElem?_eq_getElem hnl] at this
    exact Option.some.inj this
   rw [List.drop_eq_getElem_cons hnl,hol]
   obtain ⟨d,hd,hdn⟩:=hdst n o ho
   have hst:=AllSteps.get (i:=n) hs (by rw [Array.getElem?_toList];exact ho)
   rw [Nat.zero_add] at hst
   have hput : ∀ v w',prAt L n v w'→Ext w w'→SI ops L a0 w0 (n+1) (a.put o.dst v) w':=by
    intro v w' hv hE
    refine ⟨by rw [put_def];exact r2,by rw [put_size];exact r3,fun t ht => ?_,fun j hj hjs => ?_,r6.trans hE⟩
    ·rw [put_ne _ _ (ht o (by rw [Array.mem_toList_iff];exact Array.mem_of_getElem? ho))]
     exact r4 t ht
    ·by_cases e : j=n
     ·subst e
      have : (a.put o.dst v).eval (.tmp (dstOf ops j))=v:=by
       unfold dstOf
       rw [ho,Option.bind_some,hd,Option.getD_some,eval_tmp,put_eq _ _ (by rw [r3];exact hdn)]
       rfl
      rw [this]
      exact hv
     ·have h5:=prAt_ext (r5 j (by omega) hjs) hE
      obtain ⟨u,hu⟩ : ∃ u,ops[j]? = some u:=⟨ops[j],by simp [hjs]⟩
      obtain ⟨d',hd',-⟩:=hdst j u hu
      have : (a.put o.dst v).eval (.tmp (dstOf ops j))=a.eval (.tmp (dstOf ops j)):=by
       unfold dstOf
       rw [hu,Option.bind_some,hd',Option.getD_some,eval_tmp,eval_tmp,put_ne _ _ (fun e'=>e (hinj j n u o hu ho (by rw [hd',e'])))]
      rw [this]
      exact h5
   have hdep : (Region.wanted o (yielded ops a.tmps)=true ∧ ∀ K : Act→World→Prop,(∀ v w',prAt L n v w'→Ext w w'→K (a.put o.dst v) w')→o.wp P a w K Q)∨(Region.wanted o (yielded ops a.tmps)=false∧prAt L n undef w):=by
    refine hst a w r6 (fun j hj => ?_) (fun t ht => ?_)
    ·obtain ⟨e,he1,he2⟩:=Array.any_eq_true'.1 hj
     simp only [Bool.and_eq_true,beq_iff_eq] at he2
     have:=hafter n o ho e he1 he2.1
     rw [he2.2] at this
     exact r5 j this (by omega)
    ·have:=r4 t (fun o ho'=>by simpa using List.all_eq_true.1 ht o ho')
     rw [eval_tmp,eval_tmp,this]
   unfold wpList
   rcases hdep with ⟨hw,h⟩ | ⟨hw,h⟩
   ·rw [if_pos hw]
    exact .inl (h _ fun v w' hv hE=>ih (n+1) (by omega) _ _ (hput v w' hv hE))
   ·rw [if_neg (by rw [hw];simp)]
    exact ih (n+1) (by omega) _ _ (hput _ _ h (Ext.refl _))
 refine wp_region_list ?_
 have:=key ops.size 0 (by omega) a0 w0 ⟨rfl,rfl,fun _ _=>rfl,fun i h=>by omega,Ext.refl _⟩
 simpa using this
end
end Go.Proofs.YtepdbdckjmkbhaaGreatDoor
