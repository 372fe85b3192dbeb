/- Several texts in one: MonE, StkC, StkD, Law31A, Law31B, DeaA, DeaB, MonF, MonI. -/
import Derived.Test.YtnplphcnagooeaaQ04
import Derived.Test.YtnplphcnagooeaaQ02
import Derived.Deep.RegionLaw
import Derived.WalkMore
import Derived.Deep.LoopGhost
/- What reads from the blocks of a set alone; tables of stacks that the call owns; what a function of layer 35 gives back; no program in sight. -/
namespace Go.Proofs.Ytnplphcnagooeaa
set_option maxRecDepth 100000
open Go.RowKit
def Fq (S : Nat→Prop) (w : World) (R : World→Prop) : Prop := ∀ w'' : World,(∀ b,S b→b < w.heap.size→w''.heap[b]? = w.heap[b]?)→R w''
section
variable {S S' T : Nat→Prop} {w w' : World} {R R' : World→Prop}
theorem Fq.read (h : Fq S w R) : R w:=h w fun _ _ _=>rfl
theorem Fq.of_all (h : ∀ w,R w) : Fq S w R:=fun w'' _=>h w''
theorem Fq.imp (h : Fq S w R) (hr : ∀ w,R w→R' w) : Fq S w R':=fun w'' hb=>hr _ (h w'' hb)
theorem Fq.to (h : Fq S w R) (hE : ExtBut T w w') (hd : ∀ b,S b→b < w.heap.size → ¬ T b) (hS : ∀ b,S b→b < w.heap.size→S' b) : Fq S' w' R:=fun w'' hb =>
 h w'' fun b h1 h2=>(hb b (hS b h1 h2) (Nat.lt_of_lt_of_le h2 hE.size)).trans (hE.block b h2 (hd b h1 h2))
theorem Fq.ext (h : Fq S w R) (hE : Ext w w') : Fq S w' R:=h.to (ExtBut.of_ext (S:=fun _=>False) hE) (fun _ _ _ h=>h) (fun _ h _=>h)
theorem Fq.mono (h : Fq S w R) (hS : ∀ b,S b→b < w.heap.size→S' b) : Fq S' w R:=fun w'' hb=>h w'' fun b h1 h2=>hb b (hS b h1 h2) h2
theorem Fq.but (h : Fq S w R) (hE : ExtBut T w w') (hd : ∀ b,S b→b < w.heap.size → ¬ T b) : Fq S w' R:=h.to hE hd (fun _ h _=>h)
theorem Fq.set (h : Fq S w R) {p : Addr} (hp : S p.block→w.heap.size≤p.block) (u : Value) : Fq S (w.setCell p u) R:=h.but (ExtBut.setCell w p u) fun b h1 h2 e=>by have e' : b=p.block:=e;subst e';have:=hp h1;omega
end
theorem Fq.of_but {B : Nat} {w' : World} {R : World→Prop} (hR : ∀ w1 w2,CExt w1 w2→R w1→R w2) (h : ∀ w'' : World,ExtBut (fun b=>b < B) w' w''→R w'') : Fq (fun b=>B≤b) w' R:=Foot.of_but hR h
theorem Fq.to_but {B : Nat} {w' w'' : World} {R : World→Prop} (h : Fq (fun b=>B≤b) w' R) (hE : ExtBut (fun b=>b < B) w' w'') : R w'':=h w'' fun b h1 h2=>hE.block b h2 (by omega)
theorem Als.cext {w w' : World} {v : Value} {l : List Alloc} (h : Als w v l) (hc : CExt w w') : Als w' v l:=Tb.cext h hc fun _ _ h=>Sl.cext h hc
theorem Sts.cext {w w' : World} {v : Value} {l : List (List Item)} (h : Sts w v l) (hc : CExt w w') : Sts w' v l:=Tb.cext h hc fun _ _ h=>Sl.cext h hc
theorem Kts.cext {w w' : World} {v : Value} {l : List Stk} (h : Kts w v l) (hc : CExt w w') : Kts w' v l:=Tb.cext h hc fun _ _ h=>Sts.cext h hc
theorem Nts.cext {w w' : World} {v : Value} {l : List Int} (h : Nts w v l) (hc : CExt w w') : Nts w' v l:=Sl.cext h hc
theorem RdM.cext {w w' : World} {v : Value} {m : Mem} (h : RdM w v m) (hc : CExt w w') : RdM w' v m:=by
 obtain ⟨s,e,hs⟩:=h
 exact ⟨s,e,hs.cext hc⟩
theorem FrM.fs {w w' : World} {v : Value} {m : Mem} (h : FrM w w' v m) : ∃ s,v = .agg #[s,.int .i64 m.next]∧Fq (fun b=>w.heap.size≤b) w' (fun w=>Als w s m.al):=by
 obtain ⟨s,rfl,-⟩:=h.read
 refine ⟨s,rfl,Fq.of_but (fun _ _ hc h=>h.cext hc) fun w'' hE => ?_⟩
 obtain ⟨s',e,h'⟩:=h w'' hE
 simp only [Value.agg.injEq,Array.mk.injEq,List.cons.injEq,and_true] at e
 rw [e];exact h'
theorem OM.fs {w : World} {B : Nat} {v : Value} {vs : List Value} {l : List Alloc} (h : OM w B v vs l) : Fq (fun b=>B≤b) w (fun w=>Als w v l) :=
 Fq.of_but (fun _ _ hc h=>h.cext hc) fun _ hE=>OM.read (OM.but h hE (fun g e hl=>by have:=(h.outer.lt e).1;omega) (fun s hs g e hl=>by have:=(OM.inner_lt h s hs g e).1;omega))
theorem OwnS.fs {w : World} {B : Nat} {v : Value} {vs : List Value} {l : List (List Item)} (h : OwnS w B v vs l) : Fq (fun b=>B≤b) w (fun w=>Sts w v l) :=
 Fq.of_but (fun _ _ hc h=>h.cext hc) fun _ hE=>OwnS.sts (OwnS.but h hE (fun b hb hl=>by omega))
theorem Own.fs {w : World} {B : Nat} {e k n : Nat} {v : Value} {xs : List Value} (h : Own w B e k v n xs) : Fq (fun b=>v.ownBlock=some b) w (fun w=>Sl w k v n xs):=fun _ hb =>
 h.sl.of_block fun g e=>hb g e (h.lt e).2
structure OwnK (w : World) (B : Nat) (v : Value) (vs : List Value) (l : List Stk) : Prop where
 len : vs.length=l.length
 outer : Own w B 58 2 v l.length (trows krow vs l)
 inner : ∀ (i : Nat) (s : Value) (x : Stk),vs[i]? = some s→l[i]? = some x→Fq (fun b=>B≤b∧v.ownBlock≠some b) w (fun w=>Sts w s x.cells)
theorem Own.sl_of {w w'' : World} {B : Nat} {e k n : Nat} {v : Value} {xs : List Value} (h : Own w B e k v n xs) (hb : ∀ b,B≤b→b < w.heap.size→w''.heap[b]? = w.heap[b]?) : Sl w'' k v n xs :=
 h.fs w'' fun b h1 h2=>hb b (h.lt h1).1 h2
theorem OwnK.fs {w : World} {B : Nat} {v : Value} {vs : List Value} {l : List Stk} (h : OwnK w B v vs l) : Fq (fun b=>B≤b) w (fun w=>Kts w v l):=fun w'' hb =>
 ⟨vs,All2.iff.2 ⟨h.len,fun i s x hs hx=>(h.inner i s x hs hx) w'' fun b h1 h2=>hb b h1.1 h2⟩,h.outer.sl_of hb⟩
theorem OwnK.read {w : World} {B : Nat} {v : Value} {vs : List Value} {l : List Stk} (h : OwnK w B v vs l) : Kts w v l:=h.fs.read
theorem OwnK.nil (w : World) (B : Nat) : OwnK w B (.slice none 0 0) [] []:=⟨rfl,Own.nil _ _ _ _,fun i _ _ h=>by simp at h⟩
theorem OwnK.but {S : Nat→Prop} {w w' : World} {B : Nat} {v : Value} {vs : List Value} {l : List Stk} (h : OwnK w B v vs l) (hE : ExtBut S w w') (hS : ∀ b,B≤b → ¬ S b) : OwnK w' B v vs l :=
 ⟨h.len,ExtBut.own h.outer hE (fun g e=>hS g (h.outer.lt e).1),fun i s x hs hx=>(h.inner i s x hs hx).but hE fun b h1 _=>hS b h1.1⟩
theorem OwnK.ext {w w' : World} {B : Nat} {v : Value} {vs : List Value} {l : List Stk} (h : OwnK w B v vs l) (hE : Ext w w') : OwnK w' B v vs l:=h.but (ExtBut.of_ext (S:=fun _=>False) hE) (fun _ _ h=>h)
theorem OwnK.mono {w : World} {B B' : Nat} {v : Value} {vs : List Value} {l : List Stk} (h : OwnK w B v vs l) (hB : B'≤B) : OwnK w B' v vs l :=
 ⟨h.len,h.outer.mono hB,fun i s x hs hx=>(h.inner i s x hs hx).mono fun b h1 _=>⟨Nat.le_trans hB h1.1,h1.2⟩⟩
theorem Fq.keeps {w w' : World} {B B2 : Nat} {v v' : Value} {R : World→Prop} (h : Fq (fun b=>B≤b∧v.ownBlock≠some b) w R) (hK : Keeps w w' B2 v) (hb : v'.ownBlock=v.ownBlock ∨ ∃ g,v'.ownBlock=some g∧w.heap.size≤g) : Fq (fun b=>B≤b∧v'.ownBlock≠some b) w' R :=
 h.to (ExtBut.of_keeps hK) (fun b h1 _ e=>h1.2 e) fun b h1 h2=>⟨h1.1,fun e=>by
  rcases hb with hb | ⟨g,hb,hg⟩
  ·exact h1.2 (hb.symm.trans e)
  ·rw [hb] at e;cases e;omega⟩
theorem OwnK.push {wx w' : World} {B : Nat} {v v' s : Value} {vs : List Value} {l : List Stk} {x : Stk} (h : OwnK wx B v vs l) (hR : Fq (fun b=>B≤b∧v.ownBlock≠some b) wx (fun w=>Sts w s x.cells))
  (hO : Own w' B 58 2 v' (l.length+1) (trows krow vs l ++ krow s x)) (hK : Keeps wx w' B v) (hb : v'.ownBlock=v.ownBlock ∨ ∃ g,v'.ownBlock=some g∧wx.heap.size≤g) : OwnK w' B v' (vs ++ [s]) (l ++ [x]):=by
 refine ⟨by simp [h.len],?_,fun i u y hu hy => ?_⟩
 ·rw [List.length_append,trows_append krow h.len,trows_one]
  exact hO
 ·by_cases hi : i < vs.length
  ·rw [List.getElem?_append_left hi] at hu
   rw [List.getElem?_append_left (by rw [← h.len];exact hi)] at hy
   exact (h.inner i u y hu hy).keeps hK hb
  ·have hlt:=(List.getElem?_eq_some_iff.1 hu).1
   have hl:=h.len
   simp at hlt
   obtain rfl : i=vs.length:=by omega
   simp at hu
   rw [hl] at hy
   simp at hy
   subst hu hy
   exact hR.keeps hK hb
theorem OwnK.set {w : World} {B g n cap : Nat} {s s' : Value} {vs : List Value} {l : List Stk} {i : Nat} {x y : Stk} (h : OwnK w B (.slice (some ⟨g,0,none⟩) n cap) vs l) (hx : l[i]? = some x) (hn : y.num=x.num)
  (hR : Fq (fun b=>B≤b∧b≠g) w (fun w=>Sts w s' y.cells)) : OwnK (w.setCell ⟨g,i * 2+1,none⟩ s') B (.slice (some ⟨g,0,none⟩) n cap) (vs.set i s') (l.set i y):=by
 have hi:=(List.getElem?_eq_some_iff.1 hx).1
 obtain ⟨s,hs⟩ : ∃ s,vs[i]? = some s:=⟨vs[i]'(by rw [h.len];exact hi),by simp⟩
 have hnl : n=l.length:=by
  rcases h.outer.2 with ⟨h1,_⟩ | ⟨g',cap',cur,h1,_⟩ <;> simp only [Value.slice.injEq] at h1 <;> omega
 subst hnl
 have hO:=h.outer.set (i * 2+1) s'
 rw [trows_set krow krow_len (s':=s') (a':=y) hs hx (by omega) (by simp [krow,hn])] at hO
 have hne : ∀ {b : Nat},(Value.slice (some ⟨g,0,none⟩) l.length cap).ownBlock≠some b ↔ b≠g:=fun {b} => by simp [Value.ownBlock];exact ⟨fun h e=>h e.symm,fun h e=>h e.symm⟩
 refine ⟨by simp [h.len],by rw [List.length_set];exact hO,fun j u z hu hz => ?_⟩
 by_cases e : j=i
 ·subst e
  rw [List.getElem?_set_self (by rw [h.len];exact hi)] at hu
  rw [List.getElem?_set_self hi] at hz
  cases hu;cases hz
  exact (hR.set (fun h=>absurd rfl h.2) s').mono fun b h1 _=>⟨h1.1,hne.2 h1.2⟩
 ·rw [List.getElem?_set_ne (fun e'=>e e'.symm)] at hu hz
  exact (h.inner j u z hu hz).set (fun h=>absurd rfl (hne.1 h.2)) s'
theorem OwnK.cell {w : World} {B n cap : Nat} {a : Option Addr} {vs : List Value} {l : List Stk} {i : Nat} {x : Stk} (h : OwnK w B (.slice a n cap) vs l) (hx : l[i]? = some x) :
  ∃ g s,a=some ⟨g,0,none⟩∧B≤g∧g < w.heap.size∧vs[i]? = some s∧Fq (fun b=>B≤b∧b≠g) w (fun w=>Sts w s x.cells)∧w.cell? ⟨g,i * 2,none⟩=some (.int .i64 x.num)∧w.cell? ⟨g,i * 2+1,none⟩=some s ∧ ∀ j,w.frozen? ⟨g,j,none⟩=false:=by
 have hi:=(List.getElem?_eq_some_iff.1 hx).1
 obtain ⟨s,hs⟩ : ∃ s,vs[i]? = some s:=⟨vs[i]'(by rw [h.len];exact hi),by simp⟩
 obtain ⟨g,cp,e,hnc,hcm,hg1,hg2⟩:=h.outer.form (by omega)
 simp only [Value.slice.injEq] at e
 obtain ⟨rfl,rfl,rfl⟩:=e
 have t : ∀ j,j < 2→w.cell? ⟨g,i * 2+j,none⟩=(krow s x)[j]? := fun j hj=>(h.outer.cellAt (i * 2+j) (by omega)).trans (trows_get krow krow_len hs hx hj)
 exact ⟨g,s,rfl,hg1,hg2,hs,(h.inner i s x hs hx).mono fun b h1 _=>⟨h1.1,fun e=>h1.2 (by rw [e];rfl)⟩,t 0 (by omega),t 1 (by omega),fun j=>h.outer.frozen j⟩
theorem FrMon.of_fs {w w' : World} {sa ss sr : Value} {m : Mon} (h1 : Fq (fun b=>w.heap.size≤b) w' (fun w=>Als w sa m.mem.al)) (h2 : Fq (fun b=>w.heap.size≤b) w' (fun w=>Kts w ss m.stks)) (h3 : Fq (fun b=>w.heap.size≤b) w' (fun w=>Nts w sr m.run)) :
  FrMon w w' (.agg #[sa,.int .i64 m.mem.next,ss,sr,.int .i64 m.tag,.int .i64 m.call]) m:=fun _ hE=>⟨sa,ss,sr,rfl,h1.to_but hE,h2.to_but hE,h3.to_but hE⟩
theorem RdMon.cext {w w' : World} {v : Value} {m : Mon} (h : RdMon w v m) (hc : CExt w w') : RdMon w' v m:=by
 obtain ⟨sa,ss,sr,rfl,h1,h2,h3⟩:=h
 exact ⟨sa,ss,sr,rfl,h1.cext hc,h2.cext hc,h3.cext hc⟩
theorem FrMon.fs {w w' : World} {v : Value} {m : Mon} (h : FrMon w w' v m) : Fq (fun b=>w.heap.size≤b) w' (fun w=>RdMon w v m):=Fq.of_but (fun _ _ hc h=>h.cext hc) h
theorem FrMon.parts {w w' : World} {v : Value} {m : Mon} (h : FrMon w w' v m) : ∃ sa ss sr,v = .agg #[sa,.int .i64 m.mem.next,ss,sr,.int .i64 m.tag,.int .i64 m.call]∧Fq (fun b=>w.heap.size≤b) w' (fun w=>Als w sa m.mem.al∧Kts w ss m.stks∧Nts w sr m.run):=by
 obtain ⟨sa,ss,sr,rfl,-⟩:=h.read
 refine ⟨sa,ss,sr,rfl,h.fs.imp fun w hr => ?_⟩
 obtain ⟨s1,s2,s3,e,h1,h2,h3⟩:=hr
 simp only [Value.agg.injEq,Array.mk.injEq,List.cons.injEq,and_true,true_and] at e
 obtain ⟨rfl,rfl,rfl⟩:=e
 exact ⟨h1,h2,h3⟩
theorem RdMon.zero (w : World) : RdMon w (.agg #[.slice none 0 0,.int .i64 0,.slice none 0 0,.slice none 0 0,.int .i64 0,.int .i64 0]) Mon.zero:=⟨_,_,_,rfl,Als.nil w,Kts.nil w,Nts.nil w⟩
theorem FrMon.zero (w w' : World) : FrMon w w' (.agg #[.slice none 0 0,.int .i64 0,.slice none 0 0,.slice none 0 0,.int .i64 0,.int .i64 0]) Mon.zero:=fun w'' _=>RdMon.zero w''
theorem FrMon.but {w w' w2 : World} {v : Value} {m : Mon} {S : Nat→Prop} (h : FrMon w w' v m) (hE : ExtBut S w' w2) (hS : ∀ b,S b→b < w.heap.size) : FrMon w w2 v m:=fun w'' h2=>h w'' ((hE.mono fun b _ hb=>hS b hb).trans h2)
end Go.Proofs.Ytnplphcnagooeaa

/- Contracts: Fresh and Twin of the reference of layer 33, New of the program and of the reference. (printed by gen/stk33.py) -/
namespace Go.Proofs.Ytnplphcnagooeaa
set_option maxRecDepth 100000
open Go.RowKit
def based (n : Nat) (tag : Int) : List (List Item):=List.replicate n (baseOf tag)
theorem based_succ (n : Nat) (tag : Int) : based n tag ++ [baseOf tag]=based (n+1) tag:=(List.replicate_succ' ..).symm
theorem based_len (n : Nat) (tag : Int) : (based n tag).length=n:=List.length_replicate ..
set_option maxHeartbeats 1600000 in
theorem ref33_Fresh (num size tag : Int) (w : World) (hs : 0≤size∧size≤2) :
  Calls Try.prog 27 #[.int .i64 num,.int .i64 size,.int .i64 tag] w (RetSt w ⟨num,based size.toNat tag⟩):=by
 obtain ⟨ai,az,hai,haz,hai3,haz3,haby⟩:=Stack.infoE
 have hai:=Lib.hid hai;have haz:=Lib.hid haz;have hai3:=Lib.hid hai3;have haz3:=Lib.hid haz3;have haby:=Lib.hid haby
 obtain ⟨N,rfl⟩ : ∃ N : Nat,size=N:=⟨size.toNat,by omega⟩
 rw [Int.toNat_natCast]
 have hN : N≤2:=by omega
 have hE0:=((Ext.refl w).alloc (.cells #[.int .i64 0,.slice none 0 0] 58)).alloc (.cells #[.int .i64 num,.slice none 0 0] 58)
 have bR:=(Box.new w 58 #[.int .i64 0,.slice none 0 0]).ext ((Ext.refl _).alloc (.cells #[.int .i64 num,.slice none 0 0] 58))
 have bO:=Box.new (World.alloc w (.cells #[.int .i64 0,.slice none 0 0] 58)) 58 #[.int .i64 num,.slice none 0 0]
 simp only [World.size_alloc] at bO
 have hH:=Lib.hid (And.intro bR bO)
 clear bR bO
 go_enter Try.func27,Try.ntmps27
 go_wp2
 obtain ⟨w1,hw1⟩ : ∃ w1,(World.alloc (World.alloc w (.cells #[.int .i64 0,.slice none 0 0] 58)) (.cells #[.int .i64 num,.slice none 0 0] 58))=w1:=⟨_,rfl⟩
 have hsz1 : w1.heap.size=w.heap.size+2:=by rw [← hw1];simp
 rw [hw1] at hE0 hH ⊢
 clear hw1
 have hsz1:=Lib.hid hsz1
 go_loopw [8] (fun iv wr => ∃ (k : Nat) (v : Value) (vs : List Value),k≤N∧iv = .int .i64 k∧Box wr (w.heap.size+1) 58 #[.int .i64 num,v]∧OwnS wr w1.heap.size v vs (based k tag)∧ExtBut (· = w.heap.size+1) w1 wr) (fun iv _=>N - (intOf iv).toNat)
 case atStart=>exact ⟨0,_,[],Nat.zero_le _,rfl,hH.out.2,OTb.nil _ _,ExtBut.refl _ _⟩
 case round =>
  obtain ⟨k,v,vs,hk,rfl,bO,hT,hX⟩:=hrel
  have bR:=hH.out.1.but hX (by omega)
  have hF : Ext w wr:=ExtBut.ext hE0 hX (fun x h=>by omega)
  have hlk : (based k tag).length=k:=based_len k tag
  have hOv:=hT.outer
  rw [hlk] at hOv
  obtain ⟨av,cv,rfl,hcv1,hcv2,-⟩:=hOv.sl.slice_form
  unfold maxLen at hcv2
  have o0 : wr.cell? ⟨w.heap.size+1,1,none⟩=some (.slice av k cv):=bO.cell 1
  have hBl:=bO.lt
  by_cases hlt : k < N
  ·have hA:=Lib.hid (And.intro trivial (And.intro hT (And.intro hX (And.intro hOv (And.intro bO hlk)))))
   clear hT hX hOv bO hlk bR hs
   have hlt' : decide ((k : Int) < (N : Int))=true:=decide_eq_true (by omega)
   go_wp2_with fail
   refine (ref28_Base tag _).mono ?_
   rintro e w4 ⟨sn,rfl,hOn,hE4⟩
   have hslt:=fun g e=>(Own.lt (g:=g) hOn) e
   obtain ⟨an,cn,rfl,hcn,hcn2,-⟩:=(Own.sl hOn).slice_form
   have o4:=hE4.cell o0
   have hE6:=hE4.alloc (.cells #[.slice an (baseOf tag).length cn] 60)
   have hS6 : Sl (w4.alloc (.cells #[.slice an (baseOf tag).length cn] 60)) 1 (.slice (some ⟨w4.heap.size,0,none⟩) 1 1) 1 (srow (.slice an (baseOf tag).length cn) (baseOf tag)) :=
    (Own.lit' (B:=0) (e:=60) (k:=1) w4 #[.slice an (baseOf tag).length cn] 1 (Nat.zero_le _) (by simp [maxLen]) rfl).sl
   have hB:=Lib.hid (And.intro hE6 (And.intro hOn (And.intro hslt hE4)))
   have hk6 : k≤1000000:=by omega
   clear hOn hE4 hE6
   go_wp2_with (at_builtin;refine Hid.out ?_)
   refine Hid.mk ?_
   refine wpList_append_any rfl _ _ 56 56 rfl rfl rfl Try.underlying56 Try.underlying56 hai.out haz.out hai3.out haz3.out (hA.out.2.2.2.1.ext hB.out.1) hS6 (by simp [srow,Value.oneCell']) (by simp [maxLen];omega) (by rw [haby.out];omega) (Nat.le_trans hA.out.2.2.1.size hB.out.1.size) ?_
   intro v' w6 hOv hKv hbv _
   have hlk:=hA.out.2.2.2.2.2
   have hP : OwnS w6 w1.heap.size v' (vs ++ [.slice an (baseOf tag).length cn]) (based k tag ++ [baseOf tag]):=OwnS.push hA.out.2.1 hB.out.1 ((OwnI.mono hB.out.2.1 (by have:=hA.out.2.2.1.size;omega)).ext ((Ext.refl _).alloc _)) (fun g e=>(hslt g e).1) (by rw [hlk];exact hOv) hKv hbv
   have htk : based k tag ++ [baseOf tag]=based (k+1) tag:=based_succ k tag
   rw [htk] at hP
   obtain ⟨av',cv',rfl,-⟩:=hOv.sl.slice_form
   have hvB:=fun g e=>(hA.out.2.2.2.1.lt (g:=g) e).1
   have hvB':=fun g e=>(hOv.lt (g:=g) e).1
   have hin':=OwnS.inner_lt hP
   have bO6:=(hA.out.2.2.2.2.1.ext hB.out.1).but (ExtBut.of_keeps hKv) (fun h=>by have:=hvB _ h;have:=hsz1.out;omega)
   have hX6:=((hA.out.2.2.1.trans (ExtBut.of_ext hB.out.1)).trans' (ExtBut.of_keeps hKv) (fun x hx h=>by have:=hvB _ h;omega)).trans (ExtBut.setCell w6 ⟨w.heap.size+1,1,none⟩ (.slice av' (k+1) cv'))
   have hP7:=OwnS.but hP (ExtBut.setCell w6 ⟨w.heap.size+1,1,none⟩ (.slice av' (k+1) cv')) (fun g e h=>by have:=hsz1.out;have h' : g=w.heap.size+1:=h;omega)
   have o6 : w6.cell? ⟨w.heap.size+1,1,none⟩=some (.slice av k cv):=bO6.cell 1
   have of6:=bO6.frozen 1
   have bO7:=bO6.set 1 (.slice av' (k+1) cv')
   have hR:=Lib.hid (And.intro bO7 (And.intro hP7 hX6))
   clear hvB hvB' hin' bO6 hX6 hP7 bO7 hP hOv hKv hbv hlk htk
   go_wp2
   go_roundw
   case rel=>exact ⟨k+1,_,_,by omega,by go_num,hR.out.1,hR.out.2.1,hR.out.2.2⟩
   case measure=>simp [intOf];omega
  ·have hkl : k=N:=by omega
   subst hkl
   have hlt' : decide ((k : Int) < (k : Int))=false:=decide_eq_false (by omega)
   have o1 : wr.cell? ⟨w.heap.size+1,0,none⟩=some (.int .i64 num):=bO.cell 0
   have r0 : wr.cell? ⟨w.heap.size,0,none⟩=some (.int .i64 0):=bR.cell 0
   have r1 : wr.cell? ⟨w.heap.size,1,none⟩=some (.slice none 0 0):=bR.cell 1
   have rf0:=bR.frozen 0
   have rf1:=bR.frozen 1
   have hT':=Lib.hid hT
   clear hT hlk hOv
   go_wp2
   have hY:=((ExtBut.setCell wr ⟨w.heap.size,0,none⟩ (.int .i64 num)).mono (S':=fun b=>b=w.heap.size) (fun x _ h=>h)).trans ((ExtBut.setCell _ ⟨w.heap.size,1,none⟩ (.slice av k cv)).mono (S':=fun b=>b=w.heap.size) (fun x _ h=>h))
   have hsz:=hsz1.out
   refine bodyPost_ret (v := .agg #[.int .i64 num,.slice av k cv]) (by simp [results,Try.f27,go_sem,r0,r1]) rfl ⟨_,vs,rfl,OwnS.mono (B':=w.heap.size) (OwnS.but hT'.out hY (fun g e h=>by omega)) (by omega),ExtBut.ext hF hY (fun x h=>by omega)⟩
set_option maxHeartbeats 1600000 in
theorem stacks_New_go (num size tag : Int) (w : World) (hnum : 0≤num∧num≤1000000) (hs : 1≤size∧size≤2) (ht : inB tag=true) :
  Calls Try.prog 24 #[.int .i64 num,.int .i64 size,.int .i64 tag] w (RetK w ⟨num,based size.toNat tag⟩ 0):=by
 obtain ⟨ai,az,hai,haz,hai3,haz3,haby⟩:=Stack.infoE
 have hai:=Lib.hid hai;have haz:=Lib.hid haz;have hai3:=Lib.hid hai3;have haz3:=Lib.hid haz3;have haby:=Lib.hid haby
 obtain ⟨N,rfl⟩ : ∃ N : Nat,size=N:=⟨size.toNat,by omega⟩
 rw [Int.toNat_natCast]
 have hN : N≤2:=by omega
 have q1 : decide (num < 0)=false:=decide_eq_false (by omega)
 have q2 : decide (1000000 < num)=false:=decide_eq_false (by omega)
 have q3 : decide ((N : Int) < 1)=false:=decide_eq_false (by omega)
 have q4 : decide ((2 : Int) < (N : Int))=false:=decide_eq_false (by omega)
 have hbe : Hid (baseErr tag=0):=Hid.mk (by simp [baseErr,ht])
 have hE0:=((Ext.refl w).alloc (.cells #[.int .i64 0,.slice none 0 0] 58)).alloc (.cells #[.int .i64 num,.slice none 0 0] 58)
 have bR:=(Box.new w 58 #[.int .i64 0,.slice none 0 0]).ext ((Ext.refl _).alloc (.cells #[.int .i64 num,.slice none 0 0] 58))
 have bO:=Box.new (World.alloc w (.cells #[.int .i64 0,.slice none 0 0] 58)) 58 #[.int .i64 num,.slice none 0 0]
 simp only [World.size_alloc] at bO
 have hH:=Lib.hid (And.intro bR bO)
 clear bR bO
 go_enter Try.func24,Try.ntmps24
 go_wp2
 obtain ⟨w1,hw1⟩ : ∃ w1,(World.alloc (World.alloc w (.cells #[.int .i64 0,.slice none 0 0] 58)) (.cells #[.int .i64 num,.slice none 0 0] 58))=w1:=⟨_,rfl⟩
 have hsz1 : w1.heap.size=w.heap.size+2:=by rw [← hw1];simp
 rw [hw1] at hE0 hH ⊢
 clear hw1
 have hsz1:=Lib.hid hsz1
 go_loopw [29] (fun iv wr => ∃ (k : Nat) (v : Value) (vs : List Value),k≤N∧iv = .int .i64 k∧Box wr (w.heap.size+1) 58 #[.int .i64 num,v]∧OwnS wr w1.heap.size v vs (based k tag)∧ExtBut (· = w.heap.size+1) w1 wr) (fun iv _=>N - (intOf iv).toNat)
 case atStart=>exact ⟨0,_,[],Nat.zero_le _,rfl,hH.out.2,OTb.nil _ _,ExtBut.refl _ _⟩
 case round =>
  obtain ⟨k,v,vs,hk,rfl,bO,hT,hX⟩:=hrel
  have bR:=hH.out.1.but hX (by omega)
  have hF : Ext w wr:=ExtBut.ext hE0 hX (fun x h=>by omega)
  have hlk : (based k tag).length=k:=based_len k tag
  have hOv:=hT.outer
  rw [hlk] at hOv
  obtain ⟨av,cv,rfl,hcv1,hcv2,-⟩:=hOv.sl.slice_form
  unfold maxLen at hcv2
  have o0 : wr.cell? ⟨w.heap.size+1,1,none⟩=some (.slice av k cv):=bO.cell 1
  have hBl:=bO.lt
  by_cases hlt : k < N
  ·have hA:=Lib.hid (And.intro trivial (And.intro hT (And.intro hX (And.intro hOv (And.intro bO hlk)))))
   clear hT hX hOv bO hlk bR hs hnum ht
   have hlt' : decide ((k : Int) < (N : Int))=true:=decide_eq_true (by omega)
   go_wp2_with fail
   refine (items_Base tag _).mono ?_
   rintro e w4 ⟨sn,rfl,hOn,hE4⟩
   rw [hbe.out]
   have hslt:=fun g e=>(Own.lt (g:=g) hOn) e
   obtain ⟨an,cn,rfl,hcn,hcn2,-⟩:=(Own.sl hOn).slice_form
   have o4:=hE4.cell o0
   have hE6:=hE4.alloc (.cells #[.slice an (baseOf tag).length cn] 60)
   have hS6 : Sl (w4.alloc (.cells #[.slice an (baseOf tag).length cn] 60)) 1 (.slice (some ⟨w4.heap.size,0,none⟩) 1 1) 1 (srow (.slice an (baseOf tag).length cn) (baseOf tag)) :=
    (Own.lit' (B:=0) (e:=60) (k:=1) w4 #[.slice an (baseOf tag).length cn] 1 (Nat.zero_le _) (by simp [maxLen]) rfl).sl
   have hB:=Lib.hid (And.intro hE6 (And.intro hOn (And.intro hslt hE4)))
   have hk6 : k≤1000000:=by omega
   clear hOn hE4 hE6
   go_wp2_with (at_builtin;refine Hid.out ?_)
   refine Hid.mk ?_
   refine wpList_append_any rfl _ _ 56 56 rfl rfl rfl Try.underlying56 Try.underlying56 hai.out haz.out hai3.out haz3.out (hA.out.2.2.2.1.ext hB.out.1) hS6 (by simp [srow,Value.oneCell']) (by simp [maxLen];omega) (by rw [haby.out];omega) (Nat.le_trans hA.out.2.2.1.size hB.out.1.size) ?_
   intro v' w6 hOv hKv hbv _
   have hlk:=hA.out.2.2.2.2.2
   have hP : OwnS w6 w1.heap.size v' (vs ++ [.slice an (baseOf tag).length cn]) (based k tag ++ [baseOf tag]):=OwnS.push hA.out.2.1 hB.out.1 ((OwnI.mono hB.out.2.1 (by have:=hA.out.2.2.1.size;omega)).ext ((Ext.refl _).alloc _)) (fun g e=>(hslt g e).1) (by rw [hlk];exact hOv) hKv hbv
   have htk : based k tag ++ [baseOf tag]=based (k+1) tag:=based_succ k tag
   rw [htk] at hP
   obtain ⟨av',cv',rfl,-⟩:=hOv.sl.slice_form
   have hvB:=fun g e=>(hA.out.2.2.2.1.lt (g:=g) e).1
   have hvB':=fun g e=>(hOv.lt (g:=g) e).1
   have hin':=OwnS.inner_lt hP
   have bO6:=(hA.out.2.2.2.2.1.ext hB.out.1).but (ExtBut.of_keeps hKv) (fun h=>by have:=hvB _ h;have:=hsz1.out;omega)
   have hX6:=((hA.out.2.2.1.trans (ExtBut.of_ext hB.out.1)).trans' (ExtBut.of_keeps hKv) (fun x hx h=>by have:=hvB _ h;omega)).trans (ExtBut.setCell w6 ⟨w.heap.size+1,1,none⟩ (.slice av' (k+1) cv'))
   have hP7:=OwnS.but hP (ExtBut.setCell w6 ⟨w.heap.size+1,1,none⟩ (.slice av' (k+1) cv')) (fun g e h=>by have:=hsz1.out;have h' : g=w.heap.size+1:=h;omega)
   have o6 : w6.cell? ⟨w.heap.size+1,1,none⟩=some (.slice av k cv):=bO6.cell 1
   have of6:=bO6.frozen 1
   have bO7:=bO6.set 1 (.slice av' (k+1) cv')
   have hR:=Lib.hid (And.intro bO7 (And.intro hP7 hX6))
   clear hvB hvB' hin' bO6 hX6 hP7 bO7 hP hOv hKv hbv hlk htk
   go_wp2
   go_roundw
   case rel=>exact ⟨k+1,_,_,by omega,by go_num,hR.out.1,hR.out.2.1,hR.out.2.2⟩
   case measure=>simp [intOf];omega
  ·have hkl : k=N:=by omega
   subst hkl
   have hlt' : decide ((k : Int) < (k : Int))=false:=decide_eq_false (by omega)
   have o1 : wr.cell? ⟨w.heap.size+1,0,none⟩=some (.int .i64 num):=bO.cell 0
   have r0 : wr.cell? ⟨w.heap.size,0,none⟩=some (.int .i64 0):=bR.cell 0
   have r1 : wr.cell? ⟨w.heap.size,1,none⟩=some (.slice none 0 0):=bR.cell 1
   have rf0:=bR.frozen 0
   have rf1:=bR.frozen 1
   have hT':=Lib.hid hT
   clear hT hlk hOv
   go_wp2
   have hY:=((ExtBut.setCell wr ⟨w.heap.size,0,none⟩ (.int .i64 num)).mono (S':=fun b=>b=w.heap.size) (fun x _ h=>h)).trans ((ExtBut.setCell _ ⟨w.heap.size,1,none⟩ (.slice av k cv)).mono (S':=fun b=>b=w.heap.size) (fun x _ h=>h))
   have hsz:=hsz1.out
   refine bodyPost_ret (v := .tuple #[.agg #[.int .i64 num,.slice av k cv],.int .i64 0]) (by simp [results,Try.f24,go_sem,r0,r1]) rfl ⟨_,vs,rfl,OwnS.mono (B':=w.heap.size) (OwnS.but hT'.out hY (fun g e h=>by omega)) (by omega),ExtBut.ext hF hY (fun x h=>by omega)⟩
end Go.Proofs.Ytnplphcnagooeaa

/- Contracts: Twin of the reference of layer 33. (printed by gen/stk33.py) -/
namespace Go.Proofs.Ytnplphcnagooeaa
set_option maxRecDepth 100000
open Go.RowKit
set_option maxHeartbeats 1600000 in
theorem ref33_Twin {l : List (List Item)} {num : Int} {s : Value} {w : World} (hl : Sts w s l) (hs : l.length≤1000000 ∧ ∀ x ∈ l,x.length≤1000000) :
  Calls Try.prog 22 #[.agg #[.int .i64 num,s]] w (RetSt w ⟨num,l⟩):=by
 obtain ⟨ai,az,hai,haz,hai3,haz3,haby⟩:=Stack.infoE
 have hai:=Lib.hid hai;have haz:=Lib.hid haz;have hai3:=Lib.hid hai3;have haz3:=Lib.hid haz3;have haby:=Lib.hid haby
 have hform:=hl.form
 obtain ⟨a,cp,rfl,hlc,hcm,-⟩:=hform
 unfold maxLen at hcm
 have hL:=Lib.hid hl
 have hsm:=Lib.hid hs.1
 have hE0:=(((Ext.refl w).alloc (.cells #[.int .i64 num,.slice a l.length cp] 58)).alloc (.cells #[.int .i64 0,.slice none 0 0] 58)).alloc (.cells #[.int .i64 num,.slice none 0 0] 58)
 have bM:=((Box.new w 58 #[.int .i64 num,.slice a l.length cp]).ext ((Ext.refl _).alloc (.cells #[.int .i64 0,.slice none 0 0] 58))).ext ((Ext.refl _).alloc (.cells #[.int .i64 num,.slice none 0 0] 58))
 have bR:=(Box.new (World.alloc w (.cells #[.int .i64 num,.slice a l.length cp] 58)) 58 #[.int .i64 0,.slice none 0 0]).ext ((Ext.refl _).alloc (.cells #[.int .i64 num,.slice none 0 0] 58))
 have bO:=Box.new (World.alloc (World.alloc w (.cells #[.int .i64 num,.slice a l.length cp] 58)) (.cells #[.int .i64 0,.slice none 0 0] 58)) 58 #[.int .i64 num,.slice none 0 0]
 simp only [World.size_alloc] at bR bO
 have hH:=Lib.hid (And.intro bM (And.intro bR bO))
 clear bM bR bO hl
 go_enter Try.func22,Try.ntmps22
 go_wp2
 obtain ⟨w1,hw1⟩ : ∃ w1,(World.alloc (World.alloc (World.alloc w (.cells #[.int .i64 num,.slice a l.length cp] 58)) (.cells #[.int .i64 0,.slice none 0 0] 58)) (.cells #[.int .i64 num,.slice none 0 0] 58))=w1:=⟨_,rfl⟩
 have hsz1 : w1.heap.size=w.heap.size+3:=by rw [← hw1];simp
 rw [hw1] at hE0 hH ⊢
 clear hw1
 have hsz1:=Lib.hid hsz1
 go_loopw [4] (fun iv wr => ∃ (k : Nat) (v : Value) (vs : List Value),k≤l.length∧iv = .int .i64 k∧Box wr (w.heap.size+1+1) 58 #[.int .i64 num,v]∧OwnS wr w1.heap.size v vs (l.take k)∧ExtBut (· = w.heap.size+1+1) w1 wr) (fun iv _=>l.length - (intOf iv).toNat)
 case atStart=>exact ⟨0,_,[],Nat.zero_le _,rfl,hH.out.2.2,OTb.nil _ _,ExtBut.refl _ _⟩
 case round =>
  obtain ⟨k,v,vs,hk,rfl,bO,hT,hX⟩:=hrel
  have bM:=hH.out.1.but hX (by omega)
  have bR:=hH.out.2.1.but hX (by omega)
  have hF : Ext w wr:=ExtBut.ext hE0 hX (fun x h=>by omega)
  have hlk : (l.take k).length=k:=by rw [List.length_take];omega
  have hOv:=hT.outer
  rw [hlk] at hOv
  obtain ⟨av,cv,rfl,hcv1,hcv2,-⟩:=hOv.sl.slice_form
  unfold maxLen at hcv2
  have m0 : wr.cell? ⟨w.heap.size,1,none⟩=some (.slice a l.length cp):=bM.cell 1
  have o0 : wr.cell? ⟨w.heap.size+1+1,1,none⟩=some (.slice av k cv):=bO.cell 1
  have hBl:=bO.lt
  by_cases hlt : k < l.length
  ·obtain ⟨x,hx⟩ : ∃ x,l[k]? = some x:=⟨l[k],by simp [hlt]⟩
   obtain ⟨b,off,sv,rfl,hbb,d0,hcl⟩:=(hL.out.ext hF).cell hx
   obtain ⟨ca,ccp,rfl,hclc,hccm,-⟩:=hcl.form
   have hxs : x.length≤1000000:=hs.2 x (List.mem_of_getElem? hx)
   have hA:=Lib.hid (And.intro hx (And.intro hT (And.intro hX (And.intro hOv (And.intro bO hlk)))))
   clear hx hT hX hOv bO hlk bM bR hs hbb
   go_wp2
   have hk6 : k≤1000000:=by have:=hsm.out;omega
   go_wp2
   go_region_law (first | (rw [if_pos (by rfl)];refine wp_append_any (.tmp 16) (.tmp 23) 56 56 rfl rfl rfl (B:=w1.heap.size) (e:=60) (n:=k) (m:=1) (xs:=trows srow vs (l.take k)) (ys:=srow (.slice an x.length cn) x) Try.underlying56 Try.underlying56 hai.out haz.out hai3.out haz3.out ?_ ?_ ?_ ?_ ?_ ?_ ?_;(first | exact hA.out.2.2.2.1.ext hB.out.1 | exact hA.out.2.2.2.1.ext hB.out.1.drew);(first | exact (Own.lit' (B:=0) (e:=60) (k:=1) w4 #[.slice an x.length cn] 1 (Nat.zero_le _) (by simp [maxLen]) rfl).sl | exact (Own.lit' (B:=0) (e:=60) (k:=1) w4 #[.slice an x.length cn] 1 (Nat.zero_le _) (by simp [maxLen]) rfl).sl.ext (Ext.refl _).drew);(simp [srow,Value.oneCell']);(simp [maxLen];omega);(rw [haby.out];omega);(exact Nat.le_trans hA.out.2.2.1.size hB.out.1.size);intro v' w6 hOv hKv hbv _;(obtain ⟨av',cv',rfl,-⟩:=hOv.sl.slice_form);(have hvB:=fun g e=>(hA.out.2.2.2.1.lt (g:=g) e).1);(have bO6 : Box w6 (w.heap.size+1+1) 58 #[.int .i64 num,.slice av k cv]:=(hA.out.2.2.2.2.1.ext hB.out.1).but (ExtBut.of_keeps hKv) (fun h=>by have:=hvB _ h;have:=hsz1.out;omega));(have o6 : w6.cell? ⟨w.heap.size+1+1,1,none⟩=some (.slice av k cv):=bO6.cell 1);(have of6:=bO6.frozen 1);(have hC:=Lib.hid (And.intro hOv (And.intro hKv (And.intro hbv bO6))));clear hOv hKv hbv bO6 hvB) | (go_simp;go_at_call 54;refine (ref28_Twin (hcl.ext ?_) hxs).mono ?_;(first | exact (Ext.refl _).drew | exact Ext.refl _);rintro e w4 ⟨sn,rfl,hOn,hE4⟩;(have hE4' : Ext wr w4:=(by first | exact hE4 | exact ((Ext.refl wr).drew).trans hE4));(have hslt : ∀ g,sn.ownBlock=some g→wr.heap.size≤g∧g < w4.heap.size:=fun g e=>(Own.lt (g:=g) hOn) e);(have hOn2 : OwnI w4 wr.heap.size sn x:=hOn);(obtain ⟨an,cn,rfl,hcn,hcn2,-⟩:=(Own.sl hOn).slice_form);(have o4:=hE4'.cell o0);(have hBl4 : w.heap.size+1+1 < w4.heap.size:=Nat.lt_of_lt_of_le hBl hE4'.size);(have hB:=Lib.hid (And.intro (hE4'.alloc (.cells #[.slice an x.length cn] 60)) (And.intro hOn2 (And.intro hslt hE4'))));clear hOn hslt hOn2 hE4 hE4'))
   all_goals
    have hOv:=hC.out.1
    have hKv : Keeps (w4.alloc (.cells #[.slice an x.length cn] 60)) w6 w1.heap.size (.slice av k cv):=hC.out.2.1
    have hlk:=hA.out.2.2.2.2.2
    have hP : OwnS w6 w1.heap.size (.slice av' (k+1) cv') (vs ++ [.slice an x.length cn]) (l.take k ++ [x]):=OwnS.push hA.out.2.1 hB.out.1 ((OwnI.mono hB.out.2.1 (by have:=hA.out.2.2.1.size;omega)).ext ((Ext.refl _).alloc _)) (fun g e=>(hB.out.2.2.1 g e).1) (by rw [hlk];exact hOv) hKv hC.out.2.2.1
    have htk : l.take k ++ [x]=l.take (k+1):=by rw [List.take_add_one,hA.out.1];rfl
    rw [htk] at hP
    have hvB:=fun g e=>(hA.out.2.2.2.1.lt (g:=g) e).1
    have hX6:=((hA.out.2.2.1.trans (ExtBut.of_ext hB.out.1)).trans' (ExtBut.of_keeps hKv) (fun x hx h=>by have:=hvB _ h;omega)).trans (ExtBut.setCell w6 ⟨w.heap.size+1+1,1,none⟩ (.slice av' (k+1) cv'))
    have hP7:=OwnS.but hP (ExtBut.setCell w6 ⟨w.heap.size+1+1,1,none⟩ (.slice av' (k+1) cv')) (fun g e h=>by have:=hsz1.out;have h' : g=w.heap.size+1+1:=h;omega)
    have bO7:=hC.out.2.2.2.set 1 (.slice av' (k+1) cv')
    have hR:=Lib.hid (And.intro bO7 (And.intro hP7 hX6))
    clear hvB hX6 hP7 bO7 hP hOv hKv hlk htk hC o6 of6
    go_wp2
    go_roundw
    case rel=>exact ⟨k+1,_,_,by omega,by go_num,hR.out.1,hR.out.2.1,hR.out.2.2⟩
    case measure=>simp [intOf];omega
  ·have hkl : k=l.length:=by omega
   subst hkl
   have o1 : wr.cell? ⟨w.heap.size+1+1,0,none⟩=some (.int .i64 num):=bO.cell 0
   have r0 : wr.cell? ⟨w.heap.size+1,0,none⟩=some (.int .i64 0):=bR.cell 0
   have r1 : wr.cell? ⟨w.heap.size+1,1,none⟩=some (.slice none 0 0):=bR.cell 1
   have rf0:=bR.frozen 0
   have rf1:=bR.frozen 1
   rw [List.take_length] at hT
   have hT':=Lib.hid hT
   clear hT hlk hOv bM
   go_wp2
   have hY:=((ExtBut.setCell wr ⟨w.heap.size+1,0,none⟩ (.int .i64 num)).mono (S':=fun b=>b=w.heap.size+1) (fun x _ h=>h)).trans ((ExtBut.setCell _ ⟨w.heap.size+1,1,none⟩ (.slice av l.length cv)).mono (S':=fun b=>b=w.heap.size+1) (fun x _ h=>h))
   have hsz:=hsz1.out
   refine bodyPost_ret (v := .agg #[.int .i64 num,.slice av l.length cv]) (by simp [results,Try.f22,go_sem,r0,r1]) rfl ⟨_,vs,rfl,OwnS.mono (B':=w.heap.size) (OwnS.but hT'.out hY (fun g e h=>by omega)) (by omega),ExtBut.ext hF hY (fun x h=>by omega)⟩
end Go.Proofs.Ytnplphcnagooeaa

/- Contracts: the helpers of the statements of layer 31 that use layer 30. (printed by gen/law31b.py) -/
namespace Go.Proofs.Ytnplphcnagooeaa
set_option maxRecDepth 100000
open Go.RowKit
end Go.Proofs.Ytnplphcnagooeaa

/- Plain laws of layer 31: fewer calls, none; what is held stays. No program in sight. -/
namespace Go.Proofs.Ytnplphcnagooeaa
set_option maxRecDepth 100000
open Go.RowKit
end Go.Proofs.Ytnplphcnagooeaa

/- Contracts: the held items of layer 34: holds, free. (printed by gen/dea34.py) -/
namespace Go.Proofs.Ytnplphcnagooeaa
set_option maxRecDepth 100000
open Go.RowKit
def freeB (l : List (List Item)) (run : List Int) : Bool := !(l.any fun s=>s.any (heldBy run))
def keptL (l : List (List Item)) (run : List Int) : List Item:=l.flatMap fun s=>s.filter (heldBy run)
theorem search_endC {l : List Int} {t : Int} (hs : okFrom 0 l=true) {i : Nat} (hlo : ∀ k x,k < i→l[k]? = some x→x < t) (hhi : ∀ k x,i≤k→l[k]? = some x→t≤x) : l.contains t=(l[i]? == some t):=by
 cases h : l.contains t
 ·cases h2 : (l[i]? == some t)
  ·rfl
  ·have h3 : l[i]? = some t:=by simpa using h2
   have:=List.mem_of_getElem? h3
   have h4 : l.contains t=true:=by simpa using this
   rw [h] at h4;cases h4
 ·have hm : t ∈ l:=by simpa using h
  obtain ⟨k,hk⟩:=List.mem_iff_getElem?.1 hm
  rcases Nat.lt_trichotomy k i with h1 | h1 | h1
  ·have:=hlo k t h1 hk;omega
  ·subst h1;simp [hk]
  ·have hlt : i < l.length:=by have:=(List.getElem?_eq_some_iff.1 hk).1;omega
   have h5 : l[i]? = some l[i]:=by simp [hlt]
   have:=hhi i _ (Nat.le_refl _) h5
   have:=okFrom_lt hs h1 h5 hk
   omega
set_option maxHeartbeats 1600000 in
theorem binarySearchC {l : List Int} {v : Value} {w : World} (t : Int) (hl : Nts w v l) (hs : okFrom 0 l=true) (hlen : l.length≤1000) :
  Calls Try.prog 92 #[v,.int .i64 t] w (RetIB (hasR l t) w):=by
 obtain ⟨a,cp,rfl,hlc,hcm,-⟩:=hl.form
 unfold maxLen at hcm
 have hL:=Lib.hid hl
 have hS:=Lib.hid hs
 clear hl hs
 go_enter Try.func92,Try.ntmps92
 go_wp2
 go_loop [7,8] (fun iv jv => ∃ i j : Nat,i≤j∧j≤l.length∧iv = .int .i64 i∧jv = .int .i64 j∧Hid ((∀ k x,k < i→l[k]? = some x→x < t)∧(∀ k x,j≤k→l[k]? = some x→t≤x))) (fun iv jv=>(intOf jv).toNat - (intOf iv).toNat)
 case atStart=>exact ⟨0,l.length,Nat.zero_le _,Nat.le_refl _,rfl,rfl,⟨fun k x h=>by omega,fun k x h hx=>by rw [List.getElem?_eq_none h] at hx;cases hx⟩⟩
 case round =>
  obtain ⟨i,j,hij,hj,rfl,rfl,hN⟩:=hrel
  by_cases hlt : i < j
  ·obtain ⟨x,hx⟩ : ∃ x,l[(i+j) / 2]? = some x:=⟨l[(i+j) / 2]'(by omega),by simp⟩
   obtain ⟨b,off,rfl,hb,c0⟩:=hL.out.cell hx
   have hi0 : (0 : Int)≤((i : Int)+(j : Int)) / 2:=by omega
   have hi1 : ((i : Int)+(j : Int)) / 2 < (l.length : Int):=by omega
   have hmid : Hid (i≤(i+j) / 2∧(i+j) / 2 < j):=Hid.mk (by omega)
   by_cases hxt : x < t
   ·have hq : Hid (decide (x < t)=true):=Hid.mk (decide_eq_true hxt)
    have hR : Hid ((∀ k y,k < (i+j) / 2+1→l[k]? = some y→y < t)∧(∀ k y,j≤k→l[k]? = some y→t≤y)):=Hid.mk ⟨fun k y hk hy=>by
     rcases Nat.lt_or_eq_of_le (Nat.lt_succ_iff.1 hk) with h1 | h1
     ·have:=okFrom_lt hS.out h1 hy hx;omega
     ·subst h1;rw [hx] at hy;cases hy;exact hxt,hN.out.2⟩
    clear hx hxt
    go_wp2_with fail
    refine (cmp_Less _ _ _).mono ?_
    rintro e w' ⟨rfl,rfl⟩
    rw [hq.out]
    go_wp2
    go_round
    case rel=>exact ⟨(i+j) / 2+1,j,by have:=hmid.out;omega,hj,by congr 1,rfl,hR.out⟩
    case measure=>have:=hmid.out;simp [intOf];omega
   ·have hq : Hid (decide (x < t)=false):=Hid.mk (decide_eq_false hxt)
    have hR : Hid ((∀ k y,k < i→l[k]? = some y→y < t)∧(∀ k y,(i+j) / 2≤k→l[k]? = some y→t≤y)):=Hid.mk ⟨hN.out.1,fun k y hk hy=>by
     rcases Nat.lt_or_eq_of_le hk with h1 | h1
     ·have:=okFrom_lt hS.out h1 hx hy;omega
     ·subst h1;rw [hx] at hy;cases hy;omega⟩
    clear hx hxt
    go_wp2_with fail
    refine (cmp_Less _ _ _).mono ?_
    rintro e w' ⟨rfl,rfl⟩
    rw [hq.out]
    go_wp2
    go_round
    case rel=>exact ⟨i,(i+j) / 2,by have:=hmid.out;omega,by have:=hmid.out;omega,rfl,by congr 1,hR.out⟩
    case measure=>have:=hmid.out;simp [intOf];omega
  ·obtain rfl : i=j:=by omega
   have hend:=search_endC hS.out hN.out.1 hN.out.2
   by_cases hil : i < l.length
   ·obtain ⟨x,hx⟩ : ∃ x,l[i]? = some x:=⟨l[i],by simp [hil]⟩
    obtain ⟨b,off,rfl,hb,c0⟩:=hL.out.cell hx
    have hi0 : (0 : Int)≤(i : Int):=by omega
    have hi1 : (i : Int) < (l.length : Int):=by omega
    have hd : decide ((i : Int) < (l.length : Int))=true:=decide_eq_true (by omega)
    rw [hx] at hend
    have hend' : Hid (hasR l t=(x == t)):=Hid.mk (by rw [hasR,hend];rfl)
    clear hx hend
    cases hxt : x == t
    ·rw [hxt] at hend'
     go_wp2_with (go_at_call 94;refine (slices_isNaN _ _).mono ?_;rintro e w' ⟨rfl,rfl⟩)
     go_ret2
     exact ⟨_,by rw [hend'.out];rfl,rfl⟩
    ·rw [hxt] at hend'
     go_wp2_with (go_at_call 94;refine (slices_isNaN _ _).mono ?_;rintro e w' ⟨rfl,rfl⟩)
     go_ret2
     exact ⟨_,by rw [hend'.out];rfl,rfl⟩
   ·have hd : decide ((i : Int) < (l.length : Int))=false:=decide_eq_false (by omega)
    rw [List.getElem?_eq_none (by omega)] at hend
    have hend' : Hid (hasR l t=false):=Hid.mk (by rw [hasR,hend];rfl)
    clear hend
    go_wp2
    go_ret2
    exact ⟨_,by rw [hend'.out];rfl,rfl⟩
set_option maxHeartbeats 400000 in
theorem dealloc_holds {run : List Int} {v : Value} {w : World} (x : Item) (hl : Nts w v run) (hok : okR run=true) :
  Calls Try.prog 88 #[v,x.val] w fun e w'=>e = .returned (.bool (heldBy run x))∧Ext w w':=by
 obtain ⟨p,t,c⟩:=x
 have hE:=(Ext.refl w).alloc (.cells #[.int .u8 p,.int .i64 t,.int .i64 c] 82)
 have hBS:=Lib.hid (binarySearchC c (hl.ext hE) (okR_from hok) (by have:=okR_len hok;omega))
 obtain ⟨a,cp,rfl,-⟩:=hl.form
 clear hl hok
 unfold Item.val
 go_enter Try.func88,Try.ntmps88
 go_wp2_with fail
 refine hBS.out.mono ?_
 rintro e w1 ⟨i,rfl,rfl⟩
 go_wp2
 go_ret
 exact ⟨rfl,hE⟩
set_option maxHeartbeats 1600000 in
theorem dealloc_free {l : List (List Item)} {run : List Int} {num : Int} {s v : Value} {w : World} (hl : Sts w s l) (hr : Nts w v run) (hok : okR run=true) :
  Calls Try.prog 77 #[.agg #[.int .i64 num,s],v] w fun e w'=>e = .returned (.bool (freeB l run))∧Ext w w':=by
 have hE0:=(Ext.refl w).alloc (.cells #[.int .i64 num,s] 58)
 have hl0:=hl.ext hE0
 have hr0:=hr.ext hE0
 obtain ⟨a,cp,rfl,hlc,hcm,-⟩:=hl.form
 obtain ⟨a2,cp2,rfl,-⟩:=hr.form
 unfold maxLen at hcm
 have hW:=Lib.hid hl0
 have hR:=Lib.hid hr0
 replace hok:=Lib.hid hok
 clear hl hl0 hr hr0
 go_enter Try.func77,Try.ntmps77
 go_wp2
 go_step3
 go_wp2
 go_step3
 go_wp2
 obtain ⟨w1,hw1⟩ : ∃ w1,w.alloc (.cells #[.int .i64 num,.slice a l.length cp] 58)=w1:=⟨_,rfl⟩
 rw [hw1] at hE0 hW hR ⊢
 clear hw1
 go_loopw [6,16] (fun ov iv wr => ∃ k : Nat,k≤l.length∧iv = .int .i64 k∧ov = .bool true∧Ext w1 wr∧Hid ((l.take k).any (fun s=>s.any (heldBy run))=false)) (fun _ iv _=>l.length - (intOf iv).toNat)
 case atStart=>exact ⟨0,Nat.zero_le _,rfl,rfl,Ext.refl _,by simp [Hid]⟩
 case round =>
  obtain ⟨k,hk,rfl,rfl,hE,hN⟩:=hrel
  by_cases hlt : k < l.length
  ·obtain ⟨x,hx⟩ : ∃ x,l[k]? = some x:=⟨l[k],by simp [hlt]⟩
   obtain ⟨b,off,sv,rfl,hbb,d0,hcl⟩:=(hW.out.ext hE).cell hx
   have hX:=Lib.hid hx
   obtain ⟨ca,ccp,rfl,hclc,hccm,-⟩:=hcl.form
   unfold maxLen at hccm
   have hC:=Lib.hid hcl
   clear hx hbb hcl
   go_wp2
   obtain ⟨w2,hw2⟩ : ∃ w2,wr=w2:=⟨_,rfl⟩
   have hE2 : Ext w1 w2:=hw2 ▸ hE
   have hC2 : Hid (Its w2 (.slice ca x.length ccp) x):=hw2 ▸ hC
   rw [hw2]
   clear hw2 hC
   go_loopw [6,22] (fun ov jv wq => ∃ j : Nat,j≤x.length∧jv = .int .i64 j∧ov = .bool true∧Ext w2 wq∧Hid ((x.take j).any (heldBy run)=false)) (fun _ jv _=>x.length - (intOf jv).toNat)
   case atStart=>exact ⟨0,Nat.zero_le _,rfl,rfl,Ext.refl _,by simp [Hid]⟩
   case round =>
    obtain ⟨j,hj,rfl,rfl,hY,hM⟩:=hrel
    by_cases hjl : j < x.length
    ·obtain ⟨y,hy⟩ : ∃ y,x[j]? = some y:=⟨x[j],by simp [hjl]⟩
     obtain ⟨b2,off2,rfl,hbb2,c0,c1,c2⟩:=(hC2.out.ext hY).cell hy
     have hYl:=Lib.hid hy
     obtain ⟨yp,yt,yc⟩:=y
     have hEa:=(Ext.refl wr).alloc (.cells #[.int .u8 yp,.int .i64 yt,.int .i64 yc] 82)
     clear hy hbb2
     cases hh : heldBy run ⟨yp,yt,yc⟩
     ·have hh':=Lib.hid hh
      have hM2:=Lib.hid (sany_take_succ hM.out hYl.out hh)
      clear hh
      go_wp2_with fail
      refine (dealloc_holds ⟨yp,yt,yc⟩ (((hR.out.ext hE2).ext hY).ext hEa) hok.out).mono ?_
      rintro e w4 ⟨rfl,hE4⟩
      rw [hh'.out]
      go_wp2
      go_roundw
      case rel=>exact ⟨j+1,by omega,by go_num,rfl,(hY.trans hEa).trans hE4,hM2.out⟩
      case measure=>simp [intOf];omega
     ·have hh':=Lib.hid hh
      have hres : Hid (freeB l run=false):=Hid.mk (by unfold freeB;rw [sany_hit hX.out (sany_hit hYl.out hh)];rfl)
      clear hh
      go_wp2_with fail
      refine (dealloc_holds ⟨yp,yt,yc⟩ (((hR.out.ext hE2).ext hY).ext hEa) hok.out).mono ?_
      rintro e w4 ⟨rfl,hE4⟩
      rw [hh'.out]
      go_wp2
      (try rw [Exit.noGoto_ret])
      go_ret
      exact ⟨by rw [hres.out] <;> rfl,(((hE0.trans hE2).trans hY).trans hEa).trans hE4⟩
    ·have hje : j=x.length:=by omega
     subst hje
     have hN2:=Lib.hid (sany_take_succ (p:=fun s : List Item=>s.any (heldBy run)) hN.out hX.out (by have:=hM.out;rwa [List.take_length] at this))
     go_wp2
     go_roundw
     case rel=>exact ⟨k+1,by omega,by go_num,rfl,hE2.trans hY,hN2.out⟩
     case measure=>simp [intOf];omega
  ·have hkl : k=l.length:=by omega
   subst hkl
   have hres : Hid (freeB l run=true):=Hid.mk (by
    unfold freeB
    have:=hN.out
    rw [List.take_length] at this
    rw [this];rfl)
   go_wp2
   (try rw [Exit.noGoto_ret])
   go_ret
   exact ⟨by rw [hres.out] <;> rfl,hE0.trans hE⟩
end Go.Proofs.Ytnplphcnagooeaa

/- Contracts: Protects, End, All of layer 34, the program's and the reference's. (printed by gen/dea34.py) -/
namespace Go.Proofs.Ytnplphcnagooeaa
set_option maxRecDepth 100000
open Go.RowKit
def askErr (x : Stk) (run : List Int) : Int:=if okR run then stkErr x else 8
def endR34 (x : Stk) (run : List Int) : Int × Int:=if askErr x run=0 then (if freeB x.cells run then 0 else 2,0) else (0,askErr x run)
theorem askErr_cases (x : Stk) (run : List Int) : askErr x run=8∨(askErr x run=0∧okR run=true∧okK x=true):=by
 unfold askErr
 cases h : okR run
 ·exact .inl (by simp)
 ·cases hk : okK x
  ·exact .inl (by simp [stkErr_bad hk])
  ·exact .inr ⟨by simp [stkErr_ok hk],rfl,rfl⟩
theorem okK_small {x : Stk} (h : okK x=true) : x.cells.length≤2 ∧ ∀ s ∈ x.cells,s.length≤600:=by
 unfold okK at h
 simp only [Bool.and_eq_true,decide_eq_true_eq] at h
 refine ⟨h.1.2,fun s hs => ?_⟩
 have:=List.all_eq_true.1 h.2 s hs
 unfold okS at this
 simp only [Bool.and_eq_true,decide_eq_true_eq] at this
 exact this.1
theorem kept_succ {l : List (List Item)} {run : List Int} {k : Nat} {x : List Item} (hx : l[k]? = some x) : keptL (l.take (k+1)) run=keptL (l.take k) run ++ x.filter (heldBy run):=by
 rw [List.take_add_one,hx]
 simp [keptL]
theorem kept_len {l : List (List Item)} {run : List Int} (h : ∀ s ∈ l,s.length≤600) : ∀ k : Nat,(keptL (l.take k) run).length≤600 * k
 | 0=>by simp [keptL]
 | k+1=>by
  have ih:=kept_len (run:=run) h k
  cases hx : l[k]? with
  | none =>
   rw [List.take_of_length_le (by have:=List.getElem?_eq_none_iff.1 hx;omega),← List.take_of_length_le (i:=k) (List.getElem?_eq_none_iff.1 hx)]
   omega
  | some x =>
   rw [kept_succ hx,List.length_append]
   have h1:=h x (List.mem_of_getElem? hx)
   have h2:=List.length_filter_le (heldBy run) x
   omega
theorem filt_yes {n : List Item} {q : Item→Bool} {j : Nat} {y : Item} (hy : n[j]? = some y) (hq : q y=true) : (n.take (j+1)).filter q=(n.take j).filter q ++ [y]:=by
 rw [List.take_add_one,hy,List.filter_append];simp [hq]
theorem filt_no {n : List Item} {q : Item→Bool} {j : Nat} {y : Item} (hy : n[j]? = some y) (hq : q y=false) : (n.take (j+1)).filter q=(n.take j).filter q:=by
 rw [List.take_add_one,hy,List.filter_append];simp [hq]
theorem free_kept (l : List (List Item)) (run : List Int) : freeB l run=((keptL l run).length == 0):=by
 unfold freeB keptL
 induction l with
 | nil=>rfl
 | cons s l ih =>
  rw [List.any_cons,List.flatMap_cons,List.length_append,Bool.not_or,ih]
  have : (!s.any (heldBy run))=((s.filter (heldBy run)).length == 0):=by
   cases h : s.any (heldBy run)
   ·have : s.filter (heldBy run)=[]:=List.filter_eq_nil_iff.2 (fun x hx=>by
     have:=List.any_eq_false.1 h x hx;simpa using this)
    rw [this];rfl
   ·obtain ⟨x,hx,hh⟩:=List.any_eq_true.1 h
    have hm : x ∈ s.filter (heldBy run):=List.mem_filter.2 ⟨hx,hh⟩
    have : 0 < (s.filter (heldBy run)).length:=List.length_pos_of_mem hm
    simp
    exact ⟨x,hx,hh⟩
  rw [this]
  cases h1 : (s.filter (heldBy run)).length == 0 <;> cases h2 : (l.flatMap fun s=>s.filter (heldBy run)).length == 0 <;> simp_all
set_option maxHeartbeats 800000 in
theorem dealloc_asked {l : List (List Item)} {num : Int} {run : List Int} {s v : Value} {w : World} (hl : Sts w s l) (hr : Nts w v run) :
  Calls Try.prog 76 #[.agg #[.int .i64 num,s],v] w fun e w'=>e = .returned (.int .i64 (askErr ⟨num,l⟩ run))∧Ext w w':=by
 have hE0:=(Ext.refl w).alloc (.cells #[.int .i64 num,s] 58)
 have hl0:=hl.ext hE0
 have hr0:=hr.ext hE0
 obtain ⟨a,cp,rfl,-⟩:=hl.form
 obtain ⟨a2,cp2,rfl,-⟩:=hr.form
 have bM:=Box.new w 58 #[.int .i64 num,.slice a l.length cp]
 clear hl hr
 cases hok : okR run
 ·have h8:=Lib.hid (runErr_bad hok)
  have hres : Hid (askErr ⟨num,l⟩ run=8):=Hid.mk (by simp [askErr,hok])
  clear hok
  go_enter Try.func76,Try.ntmps76
  go_wp2_with fail
  refine (guard_Check hr0).mono ?_
  rintro e w1 ⟨rfl,rfl⟩
  rw [h8.out]
  go_wp2
  go_ret
  exact ⟨by rw [hres.out] <;> rfl,hE0⟩
 ·have h0:=Lib.hid (runErr_ok hok)
  have hres : Hid (askErr ⟨num,l⟩ run=stkErr ⟨num,l⟩):=Hid.mk (by simp [askErr,hok])
  clear hok
  go_enter Try.func76,Try.ntmps76
  go_wp2_with fail
  refine (guard_Check hr0).mono ?_
  rintro e w1 ⟨rfl,rfl⟩
  rw [h0.out]
  go_wp2_with fail
  refine (stacks_Check hl0).mono ?_
  rintro e w2 ⟨rfl,hE2⟩
  go_wp2
  go_ret
  exact ⟨by rw [hres.out] <;> rfl,hE0.trans hE2⟩
set_option maxHeartbeats 800000 in
theorem ref34_asked {l : List (List Item)} {num : Int} {run : List Int} {s v : Value} {w : World} (hl : Sts w s l) (hr : Nts w v run) :
  Calls Try.prog 78 #[.agg #[.int .i64 num,s],v] w fun e w'=>e = .returned (.int .i64 (askErr ⟨num,l⟩ run))∧Ext w w':=by
 have hE0:=(Ext.refl w).alloc (.cells #[.int .i64 num,s] 58)
 have hl0:=hl.ext hE0
 have hr0:=hr.ext hE0
 obtain ⟨a,cp,rfl,-⟩:=hl.form
 obtain ⟨a2,cp2,rfl,-⟩:=hr.form
 have bM:=Box.new w 58 #[.int .i64 num,.slice a l.length cp]
 clear hl hr
 cases hok : okR run
 ·have h8:=Lib.hid (runErr_bad hok)
  have hres : Hid (askErr ⟨num,l⟩ run=8):=Hid.mk (by simp [askErr,hok])
  clear hok
  go_enter Try.func78,Try.ntmps78
  go_wp2_with fail
  refine (ref31_Check hr0).mono ?_
  rintro e w1 ⟨rfl,rfl⟩
  rw [h8.out]
  go_wp2
  go_ret
  exact ⟨by rw [hres.out] <;> rfl,hE0⟩
 ·have h0:=Lib.hid (runErr_ok hok)
  have hres : Hid (askErr ⟨num,l⟩ run=stkErr ⟨num,l⟩):=Hid.mk (by simp [askErr,hok])
  clear hok
  go_enter Try.func78,Try.ntmps78
  go_wp2_with fail
  refine (ref31_Check hr0).mono ?_
  rintro e w1 ⟨rfl,rfl⟩
  rw [h0.out]
  go_wp2_with fail
  refine (ref33_Check hl0).mono ?_
  rintro e w2 ⟨rfl,hE2⟩
  go_wp2
  go_ret
  exact ⟨by rw [hres.out] <;> rfl,hE0.trans hE2⟩
set_option maxHeartbeats 1600000 in
theorem ref34_Kept {l : List (List Item)} {run : List Int} {num : Int} {s v : Value} {w : World} (hl : Sts w s l) (hr : Nts w v run) (hsm : l.length≤2 ∧ ∀ s ∈ l,s.length≤600) :
  Calls Try.prog 79 #[.agg #[.int .i64 num,s],v] w (RetL 82 w (keptL l run)):=by
 have hE0:=(Ext.refl w).alloc (.cells #[.int .i64 num,s] 58)
 have hl0:=hl.ext hE0
 have hr0:=hr.ext hE0
 obtain ⟨a,cp,rfl,hlc,hcm,-⟩:=hl.form
 obtain ⟨a2,cp2,rfl,-⟩:=hr.form
 unfold maxLen at hcm
 have hW:=Lib.hid hl0
 have hR:=Lib.hid hr0
 clear hl hl0 hr hr0
 go_enter Try.func79,Try.ntmps79
 go_wp2
 obtain ⟨w1,hw1⟩ : ∃ w1,w.alloc (.cells #[.int .i64 num,.slice a l.length cp] 58)=w1:=⟨_,rfl⟩
 have b2 : w1.cell? ⟨w.heap.size,1,none⟩=some (.slice a l.length cp):=by rw [← hw1];simp
 rw [hw1] at hE0 hW hR ⊢
 clear hw1
 go_loopw [5,6] (fun ov iv wr => ∃ k : Nat,k≤l.length∧iv = .int .i64 k∧OwnI wr w1.heap.size ov (keptL (l.take k) run)∧Ext w1 wr) (fun _ iv _=>l.length - (intOf iv).toNat)
 case atStart=>exact ⟨0,Nat.zero_le _,rfl,OwnI.nil _ _,Ext.refl _⟩
 case round =>
  obtain ⟨k,hk,rfl,hO,hE⟩:=hrel
  have hklen:=kept_len (run:=run) hsm.2 k
  have e0:=hE.cell b2
  by_cases hlt : k < l.length
  ·obtain ⟨x,hx⟩ : ∃ x,l[k]? = some x:=⟨l[k],by simp [hlt]⟩
   have hx6 : x.length≤600:=hsm.2 x (List.mem_of_getElem? hx)
   obtain ⟨b,off,sv,rfl,hbb,d1,hcl⟩:=hW.out.cell hx
   have d0:=hE.cell d1
   have hX:=Lib.hid hx
   obtain ⟨ca,ccp,rfl,hclc,hccm,-⟩:=hcl.form
   unfold maxLen at hccm
   have hC:=Lib.hid hcl
   clear hx hbb hcl
   go_wp2
   clear d0
   go_loopw [5,7] (fun ov jv wq => ∃ j : Nat,j≤x.length∧jv = .int .i64 j∧OwnI wq w1.heap.size ov (keptL (l.take k) run ++ (x.take j).filter (heldBy run))∧Ext w1 wq) (fun _ jv _=>x.length - (intOf jv).toNat)
   case atStart=>exact ⟨0,Nat.zero_le _,rfl,by simpa using hO,hE⟩
   case round =>
    obtain ⟨j,hj,rfl,hQ,hY⟩:=hrel
    have e1 : World.cell? wr ⟨w.heap.size,1,none⟩=some (.slice (some ⟨b,off,none⟩) l.length cp):=hY.cell b2
    have d3 : World.cell? wr ⟨b,off+k,none⟩=some (.slice ca x.length ccp):=hY.cell d1
    by_cases hjl : j < x.length
    ·obtain ⟨y,hy⟩ : ∃ y,x[j]? = some y:=⟨x[j],by simp [hjl]⟩
     obtain ⟨b4,off4,rfl,hbb4,c0,c1,c2⟩:=(hC.out.ext hY).cell hy
     have hYl:=Lib.hid hy
     obtain ⟨yp,yt,yc⟩:=y
     have hEa:=(Ext.refl wr).alloc (.cells #[.int .u8 yp,.int .i64 yt,.int .i64 yc] 82)
     have hflen : ((x.take j).filter (heldBy run)).length≤600:=by
      have h1:=List.length_filter_le (heldBy run) (x.take j)
      rw [List.length_take] at h1
      omega
     clear hy hbb4
     cases hh : hasR run yc
     ·have hh':=Lib.hid hh
      have hM2 : Hid ((x.take (j+1)).filter (heldBy run)=(x.take j).filter (heldBy run)):=Hid.mk (filt_no hYl.out hh)
      clear hh
      go_wp2_with fail
      refine (ref31_Runs yc (hR.out.ext hY)).mono ?_
      rintro e wz ⟨rfl,rfl⟩
      rw [hh'.out]
      go_wp2
      go_roundw
      case rel=>exact ⟨j+1,by omega,by go_num,by rw [hM2.out];exact hQ,hY⟩
      case measure=>simp [intOf];omega
     ·have hh':=Lib.hid hh
      have hM2 : Hid (keptL (l.take k) run ++ (x.take (j+1)).filter (heldBy run)=(keptL (l.take k) run ++ (x.take j).filter (heldBy run)) ++ [⟨yp,yt,yc⟩]):=Hid.mk (by rw [filt_yes hYl.out hh,List.append_assoc])
      clear hh
      obtain ⟨KL,hKL⟩ : ∃ KL,keptL (l.take k) run ++ (x.take j).filter (heldBy run)=KL:=⟨_,rfl⟩
      rw [hKL] at hQ hM2
      have hKl : KL.length≤10000:=by rw [← hKL,List.length_append];omega
      clear hKL
      obtain ⟨qa,qc,rfl,-⟩:=hQ.its.form
      have hQ':=Lib.hid hQ
      clear hQ
      go_wp2_with fail
      refine (ref31_Runs yc (hR.out.ext hY)).mono ?_
      rintro e wz ⟨rfl,rfl⟩
      rw [hh'.out]
      have hWx : Ext wr wr:=Ext.refl wr
      have hE6 : Ext wr (wr.alloc (.cells #[.int .u8 yp,.int .i64 yt,.int .i64 yc] 82)):=hWx.alloc _
      have hS6 : Sl (wr.alloc (.cells #[.int .u8 yp,.int .i64 yt,.int .i64 yc] 82)) 3 (.slice (some ⟨wr.heap.size,0,none⟩) 1 1) 1 (Item.row ⟨yp,yt,yc⟩):=(Own.lit' (B:=0) (e:=82) (k:=3) wr #[.int .u8 yp,.int .i64 yt,.int .i64 yc] 1 (Nat.zero_le _) (by simp [maxLen]) rfl).sl
      obtain ⟨ti,tz,hti,htz,hti3,htz3,htby⟩:=Item.infoE
      replace hti:=Lib.hid hti;replace htz:=Lib.hid htz;replace hti3:=Lib.hid hti3;replace htz3:=Lib.hid htz3;replace htby:=Lib.hid htby
      have hS6':=Lib.hid hS6
      have hE6':=Lib.hid hE6
      clear hS6 hE6
      go_wp2_with (at_builtin;refine Hid.out ?_)
      refine Hid.mk ?_
      refine wpList_append_any rfl _ _ 59 59 rfl rfl rfl Try.underlying59 Try.underlying59 hti.out htz.out hti3.out htz3.out (Own.ext hQ'.out hE6'.out) hS6'.out (by simp [Item.row,Value.oneCell']) (by simp [maxLen];omega) (by rw [htby.out];omega) (Nat.le_trans hY.size hE6'.out.size) ?_
      intro v' w6 hOv hKv _ _
      have hOw : OwnI w6 w1.heap.size v' (KL ++ [⟨yp,yt,yc⟩]):=by
       unfold OwnI
       rw [List.length_append,List.flatMap_append]
       simpa using hOv
      have hX6 : Ext w1 w6:=ExtBut.ext (hY.trans hE6'.out) ((ExtBut.of_keeps hKv).mono (S':=fun b=>w1.heap.size≤b) (fun b _ hb=>(hQ'.out.lt _ hb).1)) (fun b hb=>hb) |> fun h=>h
      clear hOv hKv
      go_wp2
      go_roundw
      case rel=>exact ⟨j+1,by omega,by go_num,by rw [hM2.out];exact hOw,hX6⟩
      case measure=>simp [intOf];omega
    ·have hje : j=x.length:=by omega
     subst hje
     have hN2 : Hid (keptL (l.take (k+1)) run=keptL (l.take k) run ++ (x.take x.length).filter (heldBy run)):=Hid.mk (by rw [kept_succ hX.out,List.take_length])
     go_wp2
     go_roundw
     case rel=>exact ⟨k+1,by omega,by go_num,by rw [hN2.out];exact hQ,hY⟩
     case measure=>simp [intOf];omega
  ·have hkl : k=l.length:=by omega
   subst hkl
   rw [List.take_length] at hO
   obtain ⟨fa,fc,rfl,-⟩:=hO.its.form
   go_wp2
   go_ret
   exact ⟨_,rfl,OwnI.mono hO hE0.size,hE0.trans hE⟩
end Go.Proofs.Ytnplphcnagooeaa

/- What the functions of layer 35 on a monitor's life compute (Alloc, Enter, Leave, End, Forget), and plain laws of valid monitors; no program in sight. -/
namespace Go.Proofs.Ytnplphcnagooeaa
set_option maxRecDepth 100000
open Go.RowKit
def Ptr.zero : Ptr:=⟨0,0,0⟩
def allocM (m : Mon) (size : Int) : Mon × Ptr × Int :=
 if okMon m then
  if (addR m.mem size).2.2=0 then
   if m.tag=1000000 then (Mon.zero,Ptr.zero,18)
   else (⟨(addR m.mem size).1,m.stks ++ [⟨(addR m.mem size).2.1,based size.toNat m.tag⟩],m.run,m.tag+1,m.call⟩,⟨(addR m.mem size).2.1,0,m.tag⟩,0)
  else (Mon.zero,Ptr.zero,(addR m.mem size).2.2)
 else (Mon.zero,Ptr.zero,8)
def enterM (m : Mon) : Mon × Int × Int :=
 if okMon m then if m.run.length=32∨m.call=1000000 then (Mon.zero,0,18) else (⟨m.mem,m.stks,m.run ++ [m.call],m.tag,m.call+1⟩,m.call,0) else (Mon.zero,0,8)
def leaveM (m : Mon) : Mon × Int :=
 if okMon m then if m.run.length=0 then (Mon.zero,6) else (⟨m.mem,m.stks,m.run.take (m.run.length - 1),m.tag,m.call⟩,0) else (Mon.zero,8)
def endedK (x : Stk) : Stk:=⟨x.num,List.replicate x.cells.length []⟩
def endM (m : Mon) (n : Int) : Mon × Int × Int :=
 if okMon m then
  match atNum m.mem.al n with
  | none=>(Mon.zero,0,6)
  | some i =>
   if (m.mem.al.getD i Alloc.zero).live then
    if (endR34 (m.stks.getD i Stk.zero) m.run).1=0 then (⟨⟨endAt m.mem.al i,m.mem.next⟩,m.stks.set i (endedK (m.stks.getD i Stk.zero)),m.run,m.tag,m.call⟩,0,0)
    else (Mon.zero,(endR34 (m.stks.getD i Stk.zero) m.run).1,0)
   else (Mon.zero,0,6)
 else (Mon.zero,0,8)
def keptK (l : List Stk) (al : List Alloc) : List Stk:=((l.zip al).filter fun p=>p.2.live).map fun p=>p.1
def forgetM (m : Mon) : Mon × Int:=if okMon m then (⟨⟨m.mem.al.filter (·.live),m.mem.next⟩,keptK m.stks m.mem.al,m.run,m.tag,m.call⟩,0) else (Mon.zero,8)
structure MonOk (m : Mon) : Prop where
 mem : okM m.mem.al m.mem.next=true
 len : m.stks.length=m.mem.al.length
 tag : 1≤m.tag∧m.tag≤1000000
 call : 1≤m.call∧m.call≤1000000
 run : okR m.run=true
 last : m.run.length=0∨lastR m.run < m.call
 row : ∀ (i : Nat) (x : Stk) (a : Alloc),m.stks[i]? = some x→m.mem.al[i]? = some a→rowM m.tag m.call x a=true
theorem okMon_iff (m : Mon) : okMon m=true ↔ MonOk m:=by
 unfold okMon headM lastM rowsM cntd
 simp only [Bool.and_eq_true,Bool.or_eq_true,beq_iff_eq,decide_eq_true_eq,List.all_eq_true,List.mem_range]
 constructor
 ·rintro ⟨⟨⟨⟨⟨⟨h1,h2⟩,h3⟩,h4⟩,h5⟩,h6⟩,h7⟩
  refine ⟨h1,h2,h3,h4,h5,h6,fun i x a hx ha => ?_⟩
  have:=h7 i (List.getElem?_eq_some_iff.1 ha).1
  simpa only [rowAtM,hx,ha] using this
 ·rintro ⟨h1,h2,h3,h4,h5,h6,h7⟩
  refine ⟨⟨⟨⟨⟨⟨h1,h2⟩,h3⟩,h4⟩,h5⟩,h6⟩,fun i hi => ?_⟩
  have ha : m.mem.al[i]? = some m.mem.al[i]:=by simp [hi]
  have hx : m.stks[i]? = some (m.stks[i]'(by rw [h2];exact hi)):=by simp
  simp only [rowAtM,hx,ha]
  exact h7 i _ _ hx ha
theorem MonOk.of {m : Mon} (h : okMon m=true) : MonOk m:=(okMon_iff m).1 h
theorem monErr_of {m : Mon} (h : okMon m=true) : monErr m=0:=by simp [monErr,h]
theorem monErr_not {m : Mon} (h : okMon m=false) : monErr m=8:=by simp [monErr,h]
theorem rowM_parts {tag call : Int} {x : Stk} {a : Alloc} (h : rowM tag call x a=true) : x.num=a.num∧x.cells.length=a.cells.length∧okK x=true ∧ ∀ s ∈ x.cells,∀ it ∈ s,a.live=true∧it.t < tag∧it.c < call:=by
 unfold rowM itM at h
 simp only [Bool.and_eq_true,beq_iff_eq,List.all_eq_true,decide_eq_true_eq,List.mem_flatten] at h
 exact ⟨h.1.1.1,h.1.1.2,h.1.2,fun s hs it hi=>h.2 it ⟨s,hs,hi⟩⟩
theorem MonOk.stk {m : Mon} (h : MonOk m) {i : Nat} (hi : i < m.mem.al.length) : ∃ x a,m.stks[i]? = some x∧m.mem.al[i]? = some a∧rowM m.tag m.call x a=true:=by
 have ha : m.mem.al[i]? = some m.mem.al[i]:=by simp [hi]
 have hx : m.stks[i]? = some (m.stks[i]'(by rw [h.len];exact hi)):=by simp
 exact ⟨_,_,hx,ha,h.row i _ _ hx ha⟩
theorem MonOk.memOk {m : Mon} (h : MonOk m) : m.mem.ok=true:=h.mem
theorem MonOk.lastlt {m : Mon} (h : MonOk m) : lastR m.run < m.call:=by
 rcases h.last with h1 | h1
 ·have : m.run=[]:=List.eq_nil_of_length_eq_zero h1
  rw [this,lastR_nil];have:=h.call;omega
 ·exact h1
theorem MonOk.enter {m : Mon} (h : MonOk m) : enterR m.run m.call=if m.run.length=32 then ([],18) else (m.run ++ [m.call],0):=by
 have h1:=h.lastlt
 have h2:=h.call
 unfold enterR
 rw [if_pos h.run,if_neg (by omega)]
theorem MonOk.leave {m : Mon} (h : MonOk m) : leaveR m.run=if m.run.length=0 then ([],6) else (m.run.take (m.run.length - 1),0):=by
 unfold leaveR
 rw [if_pos h.run]
theorem findIdx_nums {l : List Stk} {al : List Alloc} (hlen : l.length=al.length) (h : ∀ (i : Nat) (x : Stk) (a : Alloc),l[i]? = some x→al[i]? = some a→x.num=a.num) (n : Int) : l.findIdx? (fun x=>x.num == n)=atNum al n:=by
 unfold atNum
 induction l generalizing al with
 | nil=>cases al with
  | nil=>rfl
  | cons a al=>simp at hlen
 | cons x l ih=>cases al with
  | nil=>simp at hlen
  | cons a al =>
   have h0:=h 0 x a rfl rfl
   rw [List.findIdx?_cons,List.findIdx?_cons,h0,ih (by simpa using hlen) (fun i y b hy hb=>h (i+1) y b (by simpa using hy) (by simpa using hb))]
theorem MonOk.at {m : Mon} (h : MonOk m) (n : Int) : m.stks.findIdx? (fun x=>x.num == n)=atNum m.mem.al n:=findIdx_nums h.len (fun i x a hx ha=>(rowM_parts (h.row i x a hx ha)).1) n
theorem okAl_sorted {next least : Int} {l : List Alloc} (h : okAl next least l=true) : ∀ (i j : Nat) (a b : Alloc),i < j→l[i]? = some a→l[j]? = some b→a.num < b.num∧least≤a.num:=by
 induction l generalizing least with
 | nil=>intro i j a b _ ha;simp at ha
 | cons x l ih =>
  simp only [okAl,Bool.and_eq_true,decide_eq_true_eq] at h
  have ih:=ih h.2
  have hge : ∀ (l : List Alloc) (n : Int),okAl next n l=true → ∀ a ∈ l,n≤a.num:=by
   intro l
   induction l with
   | nil=>intro _ _ a ha;cases ha
   | cons y l ih2 =>
    intro n hn a ha
    simp only [okAl,Bool.and_eq_true,decide_eq_true_eq] at hn
    rcases List.mem_cons.1 ha with rfl | ha
    ·omega
    ·have:=ih2 _ hn.2 a ha;omega
  intro i j a b hij ha hb
  cases j with
  | zero=>omega
  | succ j =>
   cases i with
   | zero =>
    simp only [List.getElem?_cons_zero,Option.some.injEq] at ha
    subst ha
    have:=hge l _ h.2 b (List.mem_of_getElem? (by simpa using hb))
    omega
   | succ i =>
    have:=ih i j a b (by omega) (by simpa using ha) (by simpa using hb)
    omega
theorem keptK_of {P : Stk→Bool} : ∀ {l : List Stk} {al : List Alloc},l.length=al.length→(∀ (i : Nat) (x : Stk) (a : Alloc),l[i]? = some x→al[i]? = some a→P x=a.live)→l.filter P=keptK l al
 | [],[],_,_=>rfl
 | [],_ :: _,h,_=>by simp at h
 | _ :: _,[],h,_=>by simp at h
 | x :: l,a :: al,h,hP=>by
  have h0:=hP 0 x a rfl rfl
  have ih:=keptK_of (P:=P) (l:=l) (al:=al) (by simpa using h) (fun i y b hy hb=>hP (i+1) y b (by simpa using hy) (by simpa using hb))
  rw [List.filter_cons,h0,ih]
  unfold keptK
  rw [List.zip_cons_cons,List.filter_cons]
  cases a.live <;> rfl
def liveNum (al : List Alloc) (n : Int) : Bool:=(al.filter (·.live)).any fun a=>a.num == n
theorem MonOk.live {m : Mon} (h : MonOk m) {i : Nat} {x : Stk} {a : Alloc} (hx : m.stks[i]? = some x) (ha : m.mem.al[i]? = some a) : liveNum m.mem.al x.num=a.live:=by
 have hn:=(rowM_parts (h.row i x a hx ha)).1
 have hok:=h.mem
 unfold okM at hok
 simp only [Bool.and_eq_true] at hok
 have hs:=okAl_sorted hok.2
 unfold liveNum
 cases hl : a.live
 ·rw [List.any_eq_false]
  intro b hb
  obtain ⟨hb1,hb2⟩:=List.mem_filter.1 hb
  obtain ⟨j,hj⟩:=List.mem_iff_getElem?.1 hb1
  rw [beq_iff_eq,hn]
  intro e
  rcases Nat.lt_trichotomy i j with h1 | h1 | h1
  ·have:=(hs i j a b h1 ha hj).1;omega
  ·subst h1;rw [ha] at hj;cases hj;rw [hl] at hb2;cases hb2
  ·have:=(hs j i b a h1 hj ha).1;omega
 ·exact List.any_eq_true.2 ⟨a,List.mem_filter.2 ⟨List.mem_of_getElem? ha,hl⟩,by rw [hn];exact beq_self_eq_true _⟩
theorem MonOk.kept {m : Mon} (h : MonOk m) : m.stks.filter (fun x=>liveNum m.mem.al x.num)=keptK m.stks m.mem.al:=keptK_of h.len fun _ _ _ hx ha=>h.live hx ha
end Go.Proofs.Ytnplphcnagooeaa

/- Contracts: guard.Enter and guard.Leave, whose results read from new blocks alone. (printed by gen/mon35c.py) -/
namespace Go.Proofs.Ytnplphcnagooeaa
set_option maxRecDepth 100000
open Go.RowKit
def RetNF (w : World) (l : List Int) (n : Int) (en : Ending) (w' : World) : Prop := ∃ v,en = .returned (.tuple #[v,.int .i64 n])∧Fq (fun b=>w.heap.size≤b) w' (fun w=>Nts w v l)∧Ext w w'
set_option maxHeartbeats 800000 in
theorem guard_LeaveF {l : List Int} {v : Value} {w : World} (hl : Nts w v l) : Calls Try.prog 40 #[v] w (RetNF w (leaveR l).1 (leaveR l).2):=by
 have hL:=Lib.hid hl
 obtain ⟨a,cp,rfl,hlc,hcm,-⟩:=hl.form
 unfold maxLen at hcm
 clear hl
 cases hok : okR l
 ·have h8:=Lib.hid (runErr_bad hok)
  have hres:=Lib.hid (leaveR_bad hok)
  clear hok
  go_enter Try.func40,Try.ntmps40
  go_wp2_with fail
  refine (guard_Check hL.out).mono ?_
  rintro e w1 ⟨rfl,rfl⟩
  rw [h8.out]
  go_wp2
  go_ret2
  rw [hres.out]
  exact ⟨_,rfl,Fq.of_all Nts.nil,Ext.refl _⟩
 ·have h0:=Lib.hid (runErr_ok hok)
  have hlen:=okR_len hok
  by_cases hz : l.length=0
  ·have hres:=Lib.hid (leaveR_none hok hz)
   have hz' : ((l.length : Int) == 0)=true:=beq_iff_eq.2 (by omega)
   clear hok hz
   go_enter Try.func40,Try.ntmps40
   go_wp2_with fail
   refine (guard_Check hL.out).mono ?_
   rintro e w1 ⟨rfl,rfl⟩
   rw [h0.out]
   go_wp2
   go_ret2
   rw [hres.out]
   exact ⟨_,rfl,Fq.of_all Nts.nil,Ext.refl _⟩
  ·have hres:=Lib.hid (leaveR_ok hok hz)
   have hz' : ((l.length : Int) == 0)=false:=beq_eq_false_iff_ne.2 (by omega)
   have hcut:=slice_upto_Ints a l.length cp ((l.length : Int) - 1) (l.length - 1) (by omega) (by omega)
   clear hok
   go_enter Try.func40,Try.ntmps40
   go_wp2_with fail
   refine (guard_Check hL.out).mono ?_
   rintro e w1 ⟨rfl,rfl⟩
   rw [h0.out]
   go_wp2_with fail
   refine (clone_Ints (hL.out.take (l.length - 1) (by omega)) (by rw [List.length_take];omega)).mono ?_
   rintro e w1 ⟨v1,rfl,hO,hE⟩
   go_wp2
   go_ret2
   rw [hres.out]
   exact ⟨_,rfl,fun w'' hb=>Own.sl_of hO hb,hE⟩
set_option maxHeartbeats 1600000 in
theorem guard_EnterF {l : List Int} {v : Value} {w : World} (c : Int) (hl : Nts w v l) : Calls Try.prog 39 #[v,.int .i64 c] w (RetNF w (enterR l c).1 (enterR l c).2):=by
 have hL:=Lib.hid hl
 obtain ⟨a,cp,rfl,hlc,hcm,-⟩:=hl.form
 unfold maxLen at hcm
 clear hl
 cases hok : okR l
 ·have h8:=Lib.hid (runErr_bad hok)
  have hres:=Lib.hid (enterR_bad (c:=c) hok)
  clear hok
  go_enter Try.func39,Try.ntmps39
  go_wp2_with fail
  refine (guard_Check hL.out).mono ?_
  rintro e w1 ⟨rfl,rfl⟩
  rw [h8.out]
  go_wp2
  go_ret2
  rw [hres.out]
  exact ⟨_,rfl,Fq.of_all Nts.nil,Ext.refl _⟩
 ·have h0:=Lib.hid (runErr_ok hok)
  have hlen:=okR_len hok
  obtain ⟨last,hlast⟩ : ∃ n,lastR l=n:=⟨_,rfl⟩
  have hcase : (decide (0 < l.length)=false∧last=0)∨(decide (0 < l.length)=true ∧ ∃ b off,a=some ⟨b,off,none⟩∧w.cell? ⟨b,off+(l.length - 1),none⟩=some (.int .i64 last)∧(0 : Int)≤(l.length : Int) - 1∧1≤(l.length : Int)∧1≤l.length):=by
   by_cases hz : l.length=0
   ·left
    have : l=[]:=List.eq_nil_of_length_eq_zero hz
    subst this
    exact ⟨rfl,hlast.symm.trans rfl⟩
   ·right
    obtain ⟨b,off,rfl,_,hc⟩:=hL.out.cell (last_is hz)
    rw [hlast] at hc
    exact ⟨decide_eq_true (by omega),b,off,rfl,hc,by omega,by omega,by omega⟩
  by_cases hc : c≤last∨1000000 < c
  ·have hres:=Lib.hid (enterR_low hok (by rw [hlast];exact hc))
   have hq : decide (c≤last)=true∨decide (c≤last)=false∧decide (1000000 < c)=true:=by
    by_cases h : c≤last
    ·exact .inl (decide_eq_true h)
    ·exact .inr ⟨decide_eq_false h,decide_eq_true (by omega)⟩
   clear hok hc hlast
   rcases hcase with ⟨g1,rfl⟩ | ⟨g1,b,off,rfl,g2,g3,g4,g5⟩
   all_goals
    rcases hq with q1 | ⟨q1,q2⟩
    all_goals
     go_enter Try.func39,Try.ntmps39
     go_wp2_with fail
     refine (guard_Check hL.out).mono ?_
     rintro e w1 ⟨rfl,rfl⟩
     rw [h0.out]
     go_wp2
     go_ret2
     rw [hres.out]
     exact ⟨_,rfl,Fq.of_all Nts.nil,Ext.refl _⟩
  ·have q1 : decide (c≤last)=false:=decide_eq_false (by omega)
   have q2 : decide (1000000 < c)=false:=decide_eq_false (by omega)
   by_cases hf : l.length=32
   ·have hres:=Lib.hid (enterR_full hok (by rw [hlast];exact hc) hf)
    have q3 : ((l.length : Int) == 32)=true:=beq_iff_eq.2 (by omega)
    clear hok hc hlast hf
    rcases hcase with ⟨g1,rfl⟩ | ⟨g1,b,off,rfl,g2,g3,g4,g5⟩
    all_goals
     go_enter Try.func39,Try.ntmps39
     go_wp2_with fail
     refine (guard_Check hL.out).mono ?_
     rintro e w1 ⟨rfl,rfl⟩
     rw [h0.out]
     go_wp2
     go_ret2
     rw [hres.out]
     exact ⟨_,rfl,Fq.of_all Nts.nil,Ext.refl _⟩
   ·have hres:=Lib.hid (enterR_ok hok (by rw [hlast];exact hc) hf)
    have q3 : ((l.length : Int) == 32)=false:=beq_eq_false_iff_ne.2 (by omega)
    obtain ⟨i,z,hi,hz,hi3,hz3,hby⟩:=Int.infoE
    have hz:=Lib.hid hz;have hi3:=Lib.hid hi3;have hz3:=Lib.hid hz3;have hby:=Lib.hid hby;have hi:=Lib.hid hi
    clear hok hc hlast hf
    rcases hcase with ⟨g1,rfl⟩ | ⟨g1,b,off,rfl,g2,g3,g4,g5⟩
    all_goals
     go_enter Try.func39,Try.ntmps39
     go_wp2_with fail
     refine (guard_Check hL.out).mono ?_
     rintro e w1 ⟨rfl,rfl⟩
     rw [h0.out]
     go_wp2_with fail
     refine (clone_Ints hL.out (by omega)).mono ?_
     rintro e w2 ⟨v2,rfl,hO,hE⟩
     have hE2:=(Ext.refl w2).alloc (.cells #[.int .i64 c] 3)
     have hx : Sl (w2.alloc (.cells #[.int .i64 c] 3)) 1 (.slice (some ⟨w2.heap.size,0,none⟩) 1 1) 1 (irow c):=(Own.lit' (B:=0) (e:=3) (k:=1) w2 #[.int .i64 c] 1 (Nat.zero_le _) (by simp [maxLen]) rfl).sl
     have hO':=Lib.hid (hO.ext hE2)
     have hx':=Lib.hid hx
     have hEs:=Lib.hid (hE.trans hE2).size
     clear hO hx
     go_wp2_with (at_builtin;refine Hid.out ?_)
     refine Hid.mk ?_
     refine wpList_append_any rfl _ _ 26 26 rfl rfl rfl Try.underlying26 Try.underlying26 hi.out hz.out hi3.out hz3.out hO'.out hx'.out (by simp [irow,Value.oneCell']) (by simp [maxLen];omega) (by rw [hby.out];omega) hEs.out ?_
     intro v' w' hO3 hK _ _
     go_wp2
     go_ret2
     rw [hres.out]
     refine ⟨_,rfl,fun w'' hb => ?_,Below.trans (hE.trans hE2) hK.below⟩
     have:=Own.sl_of hO3 hb
     unfold Nts
     rw [List.length_append,List.flatMap_append]
     exact this
end Go.Proofs.Ytnplphcnagooeaa
