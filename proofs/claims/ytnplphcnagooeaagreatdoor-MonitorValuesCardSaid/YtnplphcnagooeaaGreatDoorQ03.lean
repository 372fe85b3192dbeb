/- Several texts in one: ItemsG, ItemsF, AccA, AccE, Foot, GraA, AccB, AccC, AccD, ItemsP, GraB. -/
import Derived.RangeFuncNested
import Derived.RangeFuncBound
import Derived.RangeFuncCalls
import Derived.RangeFuncLeaves
import Derived.RangeFuncBox
import Derived.Shelf.Abstract
import Derived.Shelf.RegionOpen
import Derived.OwnWalkIn
import Derived.TacticsInMore
import Derived.LoopNIn
import Derived.LoopIn
import Derived.Laws.EntriesVeiled
import Derived.Test.YtnplphcnagooeaaGreatDoorQ02
import Derived.Test.YtnplphcnagooeaaGreatDoorQ01
/- Contracts: items.Find, which ranges over slices.Backward. -/
namespace Go.Proofs.YtnplphcnagooeaaGreatDoor
set_option maxRecDepth 100000
open Go.RowKit Go.Shelf
attribute [local go_sem] Oper.semAt_some
def upto {α : Type} (f : Nat→α) (k : Nat) : List α:=(List.range k).map f
theorem upto_succ {α : Type} (f : Nat→α) (k : Nat) : upto f (k+1)=upto f k ++ [f k]:=by simp [upto,List.range_succ]
theorem upto_length {α : Type} (f : Nat→α) (k : Nat) : (upto f k).length=k:=by simp [upto]
def back (l : List Item) (j : Nat) : Nat × Item:=(l.length - 1 - j,(l[l.length - 1 - j]?).getD ⟨0,0,0⟩)
theorem lastUpTo_none {p : Nat→Bool} {n : Nat} (h : ∀ j,j < n→p j=false) : lastUpTo p n=none:=by
 induction n with
 | zero=>rfl
 | succ n ih=>rw [idx_step_no (h n (by omega))];exact ih fun j hj=>h j (by omega)
theorem lastUpTo_some {p : Nat→Bool} {n i : Nat} (hi : i < n) (hp : p i=true) (h : ∀ j,i < j→j < n→p j=false) : lastUpTo p n=some i:=by
 induction n with
 | zero=>omega
 | succ n ih =>
  by_cases e : i=n
  ·subst e;exact idx_step_yes hp
  ·rw [idx_step_no (h n (by omega) (by omega))];exact ih (by omega) fun j h1 h2=>h j h1 (by omega)
theorem back_item (l : List Item) (j : Nat) (hj : j < l.length) : l[l.length - 1 - j]? = some (back l j).2:=by
 unfold back
 rw [List.getElem?_eq_getElem (by omega)]
 rfl
theorem find_none {l : List Item} {tag : Int} {write : Bool} (h : ∀ x ∈ upto (back l) l.length,grants tag write x.2=false) : findAt l tag write=none:=by
 refine lastUpTo_none fun j hj => ?_
 have hb:=back_item l (l.length - 1 - j) (by omega)
 rw [show l.length - 1 - (l.length - 1 - j)=j by omega] at hb
 rw [hb]
 exact h _ (List.mem_map.2 ⟨l.length - 1 - j,List.mem_range.2 (by omega),rfl⟩)
theorem find_some {l : List Item} {tag : Int} {write : Bool} {k : Nat} (hk : k < l.length) (h : ∀ x ∈ upto (back l) k,grants tag write x.2=false) (hx : grants tag write (back l k).2=true) : findAt l tag write=some (l.length - 1 - k):=by
 refine lastUpTo_some (by omega) (by rw [back_item l k hk];exact hx) fun j h1 h2 => ?_
 have hb:=back_item l (l.length - 1 - j) (by omega)
 rw [show l.length - 1 - (l.length - 1 - j)=j by omega] at hb
 rw [hb]
 exact h _ (List.mem_map.2 ⟨l.length - 1 - j,List.mem_range.2 (by omega),rfl⟩)
theorem boxedExt {W W' : World} {B : Nat} {t : TypeId} {v : Value} (h : Boxed W B t v) (hE : Ext W W') : Boxed W' B t v:=(hE.blk h.lt).trans h
theorem KeepsOthers.of_ext {W W' : World} (hE : Ext W W') : KeepsOthers W W':=⟨hE.size,fun _ _ h _=>(hE.blk (Array.getElem?_eq_some_iff.1 h).1).trans h⟩
set_option maxHeartbeats 400000 in
theorem items_Find1 (x : Item) (tag : Int) (write : Bool) (b1 b2 : Nat) (w : World) (h1 : w.cell? ⟨b1,0,none⟩=some (.int .i64 tag)) (h2 : w.cell? ⟨b2,0,none⟩=some (.bool write)) :
  Calls Tryz.prog 150 #[x.val,.pointer (some ⟨b1,0,none⟩),.pointer (some ⟨b2,0,none⟩)] w fun e w'=>e = .returned (.bool (grants tag write x))∧Ext w w':=by
 obtain ⟨p,t,c⟩:=x
 have hE:=(Ext.refl w).alloc (.cells #[.int .u8 p,.int .i64 t,.int .i64 c] 70)
 have g1:=hE.cell h1
 have g2:=hE.cell h2
 clear h1 h2
 unfold Item.val
 cases e1 : t == tag <;> cases write <;> cases e3 : p == 4
 all_goals
  go_enter Tryz.func150,Tryz.ntmps150
  go_wp2
  go_ret
  exact ⟨by unfold grants;rw [e1,e3];rfl,hE⟩
set_option maxHeartbeats 1000000 in
theorem backward_in (F : Fence) (n : Nat) (h5 : F.fn 151) (hro : F.round=none) (a : Option Addr) (len cap : Nat) (w : World) :
  CallsIn F n Tryz.prog 151 #[.slice a len cap] w fun e w'=>e = .returned (.func (.func 157) #[] #[.pointer (some ⟨w.heap.size,0,none⟩)])∧w'=w.alloc (.cells #[.slice a len cap] 72):=by
 refine callsIn_of_wp Tryz.func151 rfl h5 ?_ hro
 simp only [Tryz.ntmps151,List.size_toArray,List.length_cons,List.length_nil,Nat.reduceAdd,Nat.reduceSub,Array.replicate_succ,Array.replicate_zero,List.push_toArray,List.append_toArray,List.nil_append,List.cons_append]
 gi_wp2
 go_ret
 exact ⟨rfl,rfl⟩
set_option maxRecDepth 100000 in
set_option maxHeartbeats 2000000 in
theorem backward1_in (F : Fence) (n : Nat) (h7 : F.fn 157) (hro : F.round=none) (hn : 1≤n) (lp Bs n₀ : Nat) (a : Option Addr) (cap : Nat) (l : List Item) (hm : l.length≤1000000) (w0 : World) (hl : Its w0 (.slice a l.length cap) l) (hn₀ : w0.heap.size≤n₀) (J Jx : List (Nat × Item)→World→Prop)
  (hY : ∀ pre x W,J pre W→pre.length < l.length→YieldAt F (n - 1) Tryz.prog lp #[.int .i64 (x.1 : Int),.agg #[.int .u8 x.2.p,.int .i64 x.2.t,.int .i64 x.2.c]] W fun e W' =>
   (e = .returned (.bool true)∧J (pre ++ [x]) W'∧Below n₀ W W')∨(e = .returned (.bool false)∧Jx (pre ++ [x]) W'))
  (W : World) (hBs : W.cell? ⟨Bs,0,none⟩=some (.slice a l.length cap)) (hBn : Bs < n₀) (hW : Ext w0 W) (h0 : J [] W) :
  CallsIn F n Tryz.prog 157 #[.func (.yield lp) #[] #[],.pointer (some ⟨Bs,0,none⟩)] W fun e W'=>(∃ v,e = .returned v) ∧
   ((∃ ys,ys=upto (back l) l.length∧J ys W')∨(∃ pre,(∃ k,k≤l.length∧pre=upto (back l) k)∧Jx pre W')):=by
 refine callsIn_of_wp Tryz.func157 rfl h7 ?_ hro
 simp only [Tryz.ntmps157,List.size_toArray,List.length_cons,List.length_nil,Nat.reduceAdd,Nat.reduceSub,Array.replicate_succ,Array.replicate_zero,List.push_toArray,List.append_toArray,List.nil_append,List.cons_append]
 gi_wp2
 gi_loopw [3] (fun i wr => ∃ k : Nat,k≤l.length∧i = .int .i64 ((l.length : Int) - 1 - k)∧J (upto (back l) k) wr∧Below n₀ W wr)
  (fun i _=>((intOf i)+1).toNat)
 case atStart=>exact ⟨0,Nat.zero_le _,by simp,h0,Below.refl _ _⟩
 case round =>
  obtain ⟨k,hk,rfl,hJs,hnx⟩:=hrel
  have hE : Ext w0 wr:=Below.trans hW (Below.mono hnx hn₀)
  have hbs:=(Below.cell hnx (p:=⟨Bs,0,none⟩) hBn).trans hBs
  by_cases hlt : k < l.length
  ·obtain ⟨j,hj⟩ : ∃ j : Nat,(l.length : Int) - 1 - k=j:=⟨l.length - 1 - k,by omega⟩
   have hjl : j < l.length:=by omega
   obtain ⟨x,hx⟩ : ∃ x,l[j]? = some x:=⟨l[j],by simp [hjl]⟩
   have hb : back l k=(j,x):=by unfold back;rw [show l.length - 1 - k=j by omega,hx];rfl
   obtain ⟨b,off,rfl,hbb,c0,c1,c2⟩:=(hl.ext hE).cell hx
   obtain ⟨fn,tmps,assign,body,hy,hR⟩:=hY _ (j,x) wr hJs (by rw [upto_length];exact hlt)
   dsimp only at hy
   rw [hj]
   have hX:=Lib.hid hx
   have hB:=Lib.hid hb
   have hJ:=Lib.hid hj
   clear hx hb hj
   gi_wp2
   refine hR.mono ?_
   rintro e W3 (⟨rfl,hJ3,hk3⟩ | ⟨rfl,hJx3⟩)
   ·gi_wp2
    go_roundw
    case rel=>exact ⟨k+1,by omega,by have:=hJ.out;first | (congr 1;done) | (congr 1;omega),by rw [upto_succ,hB.out];exact hJ3,hnx.trans hk3⟩
    case measure=>simp [intOf] <;> omega
   ·gi_wp2
    refine bodyPost_ret (results_none rfl _ _ _) rfl ?_
    exact ⟨⟨_,rfl⟩,.inr ⟨_,⟨k+1,by omega,by rw [upto_succ,hB.out]⟩,hJx3⟩⟩
  ·obtain rfl : k=l.length:=by omega
   gi_wp2
   go_end0
   exact ⟨⟨_,rfl⟩,.inl ⟨_,rfl,hJs⟩⟩
theorem backward_stops (F : Fence) (n : Nat) (h7 : F.fn 157) (hro : F.round=none) (hn : 1≤n) (Bs n₀ : Nat) (a : Option Addr) (cap : Nat) (l : List Item) (hm : l.length≤1000000) (w0 w : World) (hl : Its w0 (.slice a l.length cap) l) (hw : Ext w0 w) (hn₀ : w0.heap.size≤n₀) (hBs : Bs < n₀) (hn1 : n₀≤w.heap.size)
  (hc : w.cell? ⟨Bs,0,none⟩=some (.slice a l.length cap)) :
  SeqStopsK F n Tryz.prog 157 #[.pointer (some ⟨Bs,0,none⟩)] (fun x : Nat × Item=>#[Value.int .i64 (x.1 : Int),.agg #[.int .u8 x.2.p,.int .i64 x.2.t,.int .i64 x.2.c]]) (Below n₀) (fun ys=>ys=upto (back l) l.length)
   (fun pre => ∃ k,k≤l.length∧pre=upto (back l) k) l.length w:=fun lp J Jx W hW _ _ hY h0 =>
 backward1_in F n h7 hro hn lp Bs n₀ a cap l hm w0 hl hn₀ J Jx hY W ((Below.cell hW (p:=⟨Bs,0,none⟩) (Nat.lt_of_lt_of_le hBs hn1)).trans hc) hBs (hw.trans hW) h0
set_option maxRecDepth 100000 in
set_option maxHeartbeats 2000000 in
theorem items_Find_in (l : List Item) (a : Option Addr) (cap : Nat) (tag : Int) (write : Bool) (w : World) (hl : Its w (.slice a l.length cap) l) (hk : okS l=true) :
  CallsIn Fence.wide 10 Tryz.prog 138 #[.slice a l.length cap,.int .i64 tag,.bool write] w fun e w'=>e = .returned (.tuple #[.int .i64 (findIx l tag write),.int .i64 (findErr l tag write)])∧Ext w w':=by
 have hE4:=((((Ext.refl w).alloc (.cells #[.int .i64 tag] 3)).alloc (.cells #[.bool write] 4)).alloc (.cells #[.int .i64 0] 3)).alloc (.cells #[.int .i64 0] 34)
 have hC:=Lib.hid (items_Check (hl.ext hE4))
 have h0 : Hid (chk l=0):=Hid.mk (by simp [chk,hk])
 have hmf : ∀ (fn : Fn) (first cap : Array Value) (w : World),(Instr.makeFunc fn first cap).run Tryz.prog w = .ok (.func fn first cap) w:=fun _ _ _ _=>rfl
 refine callsIn_of_wp_marks Tryz.func138 rfl trivial ?_ rfl
 simp only [Tryz.ntmps138,List.size_toArray,List.length_cons,List.length_nil,Nat.reduceAdd,Nat.reduceSub,Array.replicate_succ,Array.replicate_zero,List.push_toArray,List.append_toArray,List.nil_append,List.cons_append]
 gi_wp2_with (first | (refine ⟨trivial,?_⟩;gi_at_call 113;refine (callsIn_wide.2 hC.out).mono ?_;rintro e w5 ⟨rfl,hE5⟩;rw [h0.out]) | (refine ⟨trivial,?_⟩;gi_at_call 151;refine (backward_in Fence.wide _ trivial rfl _ _ _ _).mono ?_;rintro e w' ⟨rfl,rfl⟩))
 have bT:=(((Boxed.new w 3 (.int .i64 tag)).alloc (.cells #[.bool write] 4)).alloc (.cells #[.int .i64 0] 3)).alloc (.cells #[.int .i64 0] 34)
 have bW:=((Boxed.new (w.alloc (.cells #[.int .i64 tag] 3)) 4 (.bool write)).alloc (.cells #[.int .i64 0] 3)).alloc (.cells #[.int .i64 0] 34)
 have bR:=(Boxed.new ((w.alloc (.cells #[.int .i64 tag] 3)).alloc (.cells #[.bool write] 4)) 3 (.int .i64 0)).alloc (.cells #[.int .i64 0] 34)
 have bE:=Boxed.new (((w.alloc (.cells #[.int .i64 tag] 3)).alloc (.cells #[.bool write] 4)).alloc (.cells #[.int .i64 0] 3)) 34 (.int .i64 0)
 simp only [World.size_alloc] at bW bR bE
 have hs5 : w.heap.size+4≤w5.heap.size:=by have:=hE5.size;simp at this;omega
 obtain ⟨fv,hfv⟩ : ∃ fv,Value.func (Fn.func 150) #[] #[Value.pointer (some ⟨w.heap.size,0,none⟩),Value.pointer (some ⟨w.heap.size+1,0,none⟩)]=fv:=⟨_,rfl⟩
 have bF:=(Boxed.new w5 172 fv).alloc (.cells #[.slice a l.length cap] 72)
 have bS:=Boxed.new (w5.alloc (.cells #[fv] 172)) 72 (.slice a l.length cap)
 rw [World.size_alloc] at bS
 have hE7:=(hE5.alloc (.cells #[fv] 172)).alloc (.cells #[.slice a l.length cap] 72)
 have hE8:=hE4.trans hE7
 have hsz : ((w5.alloc (.cells #[fv] 172)).alloc (.cells #[.slice a l.length cap] 72)).heap.size=w5.heap.size+2:=by simp
 have bT:=boxedExt bT hE7;have bW:=boxedExt bW hE7;have bR:=boxedExt bR hE7;have bE:=boxedExt bE hE7
 have hFv:=Lib.hid hfv
 rw [hfv]
 clear hfv
 obtain ⟨W0,hW0⟩ : ∃ W0,(w5.alloc (.cells #[fv] 172)).alloc (.cells #[.slice a l.length cap] 72)=W0:=⟨_,rfl⟩
 rw [hW0] at bT bW bR bE bF bS hE8 hsz ⊢
 clear hW0 hE7
 have hlen : l.length≤600:=by simp [okS] at hk;omega
 refine wpIn_rangeFunc_ownH rfl (by omega) (gf:=157) (lb:=#[.pointer (some ⟨w5.heap.size+1,0,none⟩)]) rfl trivial (enters_of Tryz.func157 (by kernel_rfl) rfl) (backward_stops Fence.wide _ trivial rfl (by omega) (w5.heap.size+1) W0.heap.size a cap l (by omega) w W0 hl hE8 hE8.size (by omega) (Nat.le_refl _) bS.cell) belowK_t (belowK_b (by omega)) (Below.refl _ _) (fun _=>rfl) (fun pre W=>(((Boxed W w.heap.size 3 (.int .i64 tag)∧Boxed W (w.heap.size+1) 4 (.bool write))∧(Boxed W (w.heap.size+1+1) 3 (.int .i64 0)∧Boxed W (w.heap.size+1+1+1) 34 (.int .i64 0)))∧Boxed W w5.heap.size 172 fv)∧((∀ x ∈ pre,grants tag write x.2=false)∧(W0.heap.size≤W.heap.size∧Below w.heap.size w W))) (fun c pre W=>(c = .ret ∧ ∃ ini last,pre=ini ++ [last]∧(∀ x ∈ ini,grants tag write x.2=false)∧grants tag write last.2=true∧W.cell? ⟨w.heap.size+1+1,0,none⟩=some (.int .i64 (last.1 : Int))∧W.cell? ⟨w.heap.size+1+1+1,0,none⟩=some (.int .i64 0))∧Below w.heap.size w W) (OwnFrom.and (OwnFrom.and (OwnFrom.and (OwnFrom.and (Go.Own.from (boxed_own _ _ _) _) (Go.Own.from (boxed_own _ _ _) _)) (OwnFrom.and (Go.Own.from (boxed_own _ _ _) _) (Go.Own.from (boxed_own _ _ _) _))) (Go.Own.from (boxed_own _ _ _) _)) (OwnFrom.and (ownFrom_pure _ _) (OwnFrom.and (fun s A B row hs hg hr=>Nat.le_trans hs hg.size) (ownFrom_below (Nat.le_refl _) hE8.size)))) (fun c=>OwnFrom.and (Go.Own.from (fun s A B row hs hg hr=>by obtain ⟨hc,ini,last,e1,e2,e3,e4,e5⟩:=hs;exact ⟨hc,ini,last,e1,e2,e3,cell_kept e4 hg hr,cell_kept e5 hg hr⟩) _) (ownFrom_below (Nat.le_refl _) hE8.size)) ⟨⟨⟨⟨bT,bW⟩,bR,bE⟩,bF⟩,(fun _ h=>by cases h),Nat.le_refl _,hE8⟩ (fun x a' W => ∃ Bx,w5.heap.size < Bx∧(W.cell? ⟨Bx,0,none⟩=some (.int .u8 x.2.p)∧W.cell? ⟨Bx,1,none⟩=some (.int .i64 x.2.t)∧W.cell? ⟨Bx,2,none⟩=some (.int .i64 x.2.c))∧a' = { tmps:=#[.slice a l.length cap,.int .i64 tag,.bool write,undef,.pointer (some ⟨w.heap.size,0,none⟩),.pointer (some ⟨w.heap.size+1,0,none⟩),.pointer (some ⟨w.heap.size+1+1,0,none⟩),.pointer (some ⟨w.heap.size+1+1+1,0,none⟩),.int .i64 0,.pointer (some ⟨w5.heap.size,0,none⟩),.int .i64 (x.1 : Int),.pointer (some ⟨Bx,0,none⟩),.slice a l.length cap,.int .i64 0,.int .i64 0,.bool false,undef,fv,.slice a l.length cap,.func (.func 157) #[] #[.pointer (some ⟨w5.heap.size+1,0,none⟩)],.int .i64 (x.1 : Int),.agg #[.int .u8 x.2.p,.int .i64 x.2.t,.int .i64 x.2.c],undef,undef,undef,undef],defers:=[] }) (fun x a' _ X Y row hs hg hr=>by obtain ⟨Bx,h1,⟨h2,h3,h4⟩,h5⟩:=hs;exact ⟨Bx,h1,⟨cell_kept h2 hg (fun r e=>(hr r e).2),cell_kept h3 hg (fun r e=>(hr r e).2),cell_kept h4 hg (fun r e=>(hr r e).2)⟩,h5⟩) ?assign ?body ?done ?stop
 case assign =>
  rintro lp pre x W K ⟨⟨⟨⟨bT,bW⟩,bR,bE⟩,bF⟩,hN,hBW,hB⟩ hK
  have hN':=Lib.hid hN
  clear hN
  gi_wp2
  exact hK _ _ ((KeepsOthers.alloc _ _).from _) ((Below.refl _ W).alloc hBW _) ⟨⟨⟨⟨bT.alloc _,bW.alloc _⟩,bR.alloc _,bE.alloc _⟩,bF.alloc _⟩,hN'.out,by simp;omega,Below.alloc hB hB.size _⟩ ⟨W.heap.size,bF.lt,⟨by simp,by simp,by simp⟩,rfl⟩
 case body =>
  rintro lp pre x a' W hl' _ ⟨⟨⟨⟨bT,bW⟩,bR,bE⟩,bF⟩,hN,hBW,hB⟩ ⟨Bx,hBx,⟨x0,x1,x2⟩,rfl⟩ hlt
  have hN':=Lib.hid hN
  clear hN
  have cF:=bF.cell
  rw [← hFv.out] at cF
  have hFind:=Lib.hid (items_Find1 x.2 tag write w.heap.size (w.heap.size+1) W bT.cell bW.cell)
  unfold Item.val at hFind
  cases hg : grants tag write x.2
  all_goals
   have hG:=Lib.hid hg
   clear hg
   gi_wp2_with (refine ⟨trivial,?_⟩;gi_at_call 150;refine (CallsIn.inRound lp (callsIn_wide.2 hFind.out)).mono ?_;rintro e W1 ⟨rfl,hE1⟩;rw [hG.out];have bR1:=boxedExt bR hE1;have bE1:=boxedExt bE hE1;have cR:=bR1.cell;have fR:=bR1.frozen;have cE:=bE1.cell;have fE:=bE1.frozen)
  ·exact ⟨(KeepsOthers.of_ext hE1).from _,Below.mono hE1 hBW,⟨⟨⟨boxedExt bT hE1,boxedExt bW hE1⟩,bR1,bE1⟩,boxedExt bF hE1⟩,fun y hy=>(List.mem_append.1 hy).elim (hN'.out y) (fun e=>by simp at e;subst e;exact hG.out),Nat.le_trans hBW hE1.size,Ext.below hB hB.size hE1⟩
  ·refine ⟨(((KeepsOthers.of_ext hE1).trans (KeepsOthers.setCell _ _ _)).trans (KeepsOthers.setCell _ _ _)).from _,⟨rfl,pre,x,rfl,hN'.out,hG.out,?_,?_⟩,?_⟩
   ·exact ((bR1.set (.int .i64 (x.1 : Int))).other (B':=w.heap.size+1+1+1) (by omega) (.int .i64 0)).cell
   ·exact ((bE1.other (B':=w.heap.size+1+1) (by omega) (.int .i64 (x.1 : Int))).set (.int .i64 0)).cell
   ·exact Below.setCell (Below.setCell (Ext.below hB hB.size hE1) (by simp;omega) _) (by simp;omega) _
 case done =>
  rintro D ys W hD rfl ⟨⟨⟨⟨bT,bW⟩,bR,bE⟩,bF⟩,hN,hBW,hB⟩ hK
  have hF:=Lib.hid (find_none hN)
  clear hN
  have cR:=bR.cell;have fR:=bR.frozen;have cE:=bE.cell;have fE:=bE.frozen
  gi_wp2
  have bR2:=(bR.set (.int .i64 0)).other (B':=w.heap.size+1+1+1) (by omega) (.int .i64 6)
  have bE2:=(bE.other (B':=w.heap.size+1+1) (by omega) (.int .i64 0)).set (.int .i64 6)
  have hB2:=Below.setCell (Below.setCell hB (p:=⟨w.heap.size+1+1,0,none⟩) (by simp;omega) (.int .i64 0)) (p:=⟨w.heap.size+1+1+1,0,none⟩) (by simp;omega) (.int .i64 6)
  have hK':=((KeepsOthers.setCell W ⟨w.heap.size+1+1,0,none⟩ (.int .i64 0)).trans (KeepsOthers.setCell _ ⟨w.heap.size+1+1+1,0,none⟩ (.int .i64 6))).same D _ hK rfl
  refine ⟨by simp,.inl ⟨_,_,rfl,run_takeDeferred hK',?_⟩⟩
  have hc5:=cell_kept bR2.cell (grownBy_putObj' _ D (.deferred none)) (fun r e=>by cases e;exact ⟨_,hK',rfl⟩)
  have hc6:=cell_kept bE2.cell (grownBy_putObj' _ D (.deferred none)) (fun r e=>by cases e;exact ⟨_,hK',rfl⟩)
  refine ⟨.tuple #[.int .i64 0,.int .i64 6],?_,by simp [findIx,findErr,hk,hF.out],hB2.trans (belowK_b (w:=w) (Nat.le_refl _) _ D _ _ (by have:=hE8.size;omega) hK' rfl rfl)⟩
  simp [results,Tryz.f138,go_sem,hc5,hc6]
 case stop =>
  rintro D c pre W hD ⟨k,hk',rfl⟩ ⟨⟨rfl,ini,last,e1,e2,e3,c5,c6⟩,hB⟩ hK
  obtain ⟨k',rfl⟩ : ∃ k',k=k'+1:=by
   cases k with
   | zero=>simp [upto] at e1
   | succ k'=>exact ⟨k',rfl⟩
  rw [upto_succ] at e1
  obtain ⟨rfl,e5⟩:=List.append_inj' e1 rfl
  obtain rfl : back l k'=last:=by simpa using e5
  have hF:=Lib.hid (find_some (by omega) e2 e3)
  clear e1 e2 e3 e5
  gi_wp2
  refine ⟨by simp,.inl ⟨_,_,rfl,run_takeDeferred hK,?_⟩⟩
  have hc5:=cell_kept c5 (grownBy_putObj' _ D (.deferred none)) (fun r e=>by cases e;exact ⟨_,hK,rfl⟩)
  have hc6:=cell_kept c6 (grownBy_putObj' _ D (.deferred none)) (fun r e=>by cases e;exact ⟨_,hK,rfl⟩)
  refine ⟨.tuple #[.int .i64 ((l.length - 1 - k' : Nat) : Int),.int .i64 0],?_,by simp [findIx,findErr,hk,hF.out],hB.trans (belowK_b (w:=w) (Nat.le_refl _) _ D _ _ (by have:=hE8.size;omega) hK rfl rfl)⟩
  simp [results,Tryz.f138,go_sem,hc5,hc6,back]
set_option maxHeartbeats 400000 in
theorem items_Find {l : List Item} {v : Value} {w : World} (tag : Int) (write : Bool) (hl : Its w v l) :
  Calls Tryz.prog 138 #[v,.int .i64 tag,.bool write] w fun e w'=>e = .returned (.tuple #[.int .i64 (findIx l tag write),.int .i64 (findErr l tag write)])∧Ext w w':=by
 obtain ⟨a,cp,rfl,-⟩:=hl.form
 by_cases hk : okS l=true
 ·exact (callsIn_wide (n:=10)).1 (items_Find_in l a cp tag write w hl hk)
 ·have hE4:=((((Ext.refl w).alloc (.cells #[.int .i64 tag] 3)).alloc (.cells #[.bool write] 4)).alloc (.cells #[.int .i64 0] 3)).alloc (.cells #[.int .i64 0] 34)
  have hC:=Lib.hid (items_Check (hl.ext hE4))
  have h8 : Hid (chk l=8):=Hid.mk (by simp [chk,hk])
  have hF : Hid (findIx l tag write=0∧findErr l tag write=8):=Hid.mk (by simp [findIx,findErr,hk])
  have bR:=(Boxed.new ((w.alloc (.cells #[.int .i64 tag] 3)).alloc (.cells #[.bool write] 4)) 3 (.int .i64 0)).alloc (.cells #[.int .i64 0] 34)
  have bE:=Boxed.new (((w.alloc (.cells #[.int .i64 tag] 3)).alloc (.cells #[.bool write] 4)).alloc (.cells #[.int .i64 0] 3)) 34 (.int .i64 0)
  simp only [World.size_alloc] at bR bE
  clear hk hl
  go_enter Tryz.func138,Tryz.ntmps138
  go_wp2_with (go_at_call 113;refine hC.out.mono ?_;rintro e w5 ⟨rfl,hE5⟩;rw [h8.out];have bR1:=boxedExt bR hE5;have bE1:=boxedExt bE hE5;have cR:=bR1.cell;have fR:=bR1.frozen;have cE:=bE1.cell;have fE:=bE1.frozen)
  have bR2:=(bR1.set (.int .i64 0)).other (B':=w.heap.size+1+1+1) (by omega) (.int .i64 8)
  have bE2:=(bE1.other (B':=w.heap.size+1+1) (by omega) (.int .i64 0)).set (.int .i64 8)
  have hB2:=Below.setCell (Below.setCell (hE4.trans hE5) (p:=⟨w.heap.size+1+1,0,none⟩) (by simp;omega) (.int .i64 0)) (p:=⟨w.heap.size+1+1+1,0,none⟩) (by simp;omega) (.int .i64 8)
  refine bodyPost_ret (v := .tuple #[.int .i64 0,.int .i64 8]) (by simp [results,Tryz.f138,go_sem,bR2.cell,bE2.cell]) rfl ⟨by rw [hF.out.1,hF.out.2],hB2⟩
end Go.Proofs.YtnplphcnagooeaaGreatDoor

/- Contracts: Above and Below, the program's and the reference's. -/
namespace Go.Proofs.YtnplphcnagooeaaGreatDoor
set_option maxRecDepth 100000
open Go.RowKit
def atErr (l : List Item) (at' : Int) : Int:=if okS l then (if 0≤at'∧at' < l.length then 0 else 2) else 8
def aboveOf (l : List Item) (at' : Int) : List Item:=if atErr l at'=0 then l.drop (at'.toNat+1) else []
def belowOf (l : List Item) (at' : Int) : List Item:=if atErr l at'=0 then l.take (at'.toNat+1) else []
theorem slice_from_Stack (a : Option Addr) (l : List Item) (cap : Nat) (x : Int) (k : Nat) (hx : x=k) (hk : k≤l.length) :
  ∃ sv,(∀ w,(Instr.slice 72 (.slice a l.length cap) (some (.int .i64 x)) none none).run Tryz.prog w = .ok (.slice sv (l.length - k) (cap - k)) w) ∧ ∀ w,Its w (.slice a l.length cap) l→Its w (.slice sv (l.length - k) (cap - k)) (l.drop k):=by
 obtain ⟨i,z,hi,hz,hi3,hz3,hby⟩:=Item.infoE
 refine ⟨_,fun w=>run_slice_from Tryz.underlying72 hi a l.length cap x k hx hk w,fun w h => ?_⟩
 rw [hi3]
 exact h.drop k hk
theorem slice_upto_Stack (a : Option Addr) (l : List Item) (cap : Nat) (x : Int) (k : Nat) (hx : x=k) (hk : k≤cap) :
  ∀ w,(Instr.slice 72 (.slice a l.length cap) none (some (.int .i64 x)) none).run Tryz.prog w = .ok (.slice a k cap) w:=by
 obtain ⟨i,z,hi,hz,hi3,hz3,hby⟩:=Item.infoE
 exact fun w=>run_slice_upto Tryz.underlying72 hi a l.length cap x k hx hk w
def RetLLN (e : TypeId) (w : World) (l m : List Item) (n : Int) (en : Ending) (w' : World) : Prop := ∃ v u,en = .returned (.tuple #[v,u,.int .i64 n])∧Own w' w.heap.size e 3 v l.length (l.flatMap Item.row)∧Own w' w.heap.size e 3 u m.length (m.flatMap Item.row)∧Ext w w'
set_option maxHeartbeats 800000 in
theorem items_cut {l : List Item} {v : Value} {w : World} (at' : Int) (hl : Its w v l) :
  Calls Tryz.prog 152 #[v,.int .i64 at'] w (RetLLN 70 w (belowOf l at') (aboveOf l at') (atErr l at')):=by
 have hC:=Lib.hid (items_Check hl)
 have hW:=Lib.hid hl
 obtain ⟨a,cp,rfl,hlc,hcm,hnn⟩:=hl.form
 clear hl
 unfold maxLen at hcm
 cases hk : okS l
 ·have h8 : Hid (chk l=8):=Hid.mk (by simp [chk,hk])
  have e1 : Hid (atErr l at'=8):=Hid.mk (by simp [atErr,hk])
  go_enter Tryz.func152,Tryz.ntmps152
  go_wp2_with (go_at_call 113;refine hC.out.mono ?_;rintro e w' ⟨rfl,hE⟩;rw [h8.out])
  go_ret3
  unfold aboveOf belowOf
  rw [e1.out]
  exact ⟨_,_,rfl,Own.nil _ _ _ _,Own.nil _ _ _ _,hE⟩
 ·have h0 : Hid (chk l=0):=Hid.mk (by simp [chk,hk])
  have hl6 : l.length≤600:=by simp [okS] at hk;omega
  by_cases hr : 0≤at'∧at' < l.length
  ·obtain ⟨k,rfl⟩:=Int.eq_ofNat_of_zero_le hr.1
   have hkl : k < l.length:=by omega
   have e1 : Hid (atErr l (k : Int)=0):=Hid.mk (by simp [atErr,hk,hkl])
   have d0 : decide ((k : Int) < 0)=false:=decide_eq_false (by omega)
   have d1 : decide ((l.length : Int)≤(k : Int))=false:=decide_eq_false (by omega)
   clear hr hk
   have hs1:=slice_upto_Stack a l cp ((k : Int)+1) (k+1) (by simp) (by omega)
   obtain ⟨sv,hs3,hs2⟩:=slice_from_Stack a l cp ((k : Int)+1) (k+1) (by simp) (by omega)
   have hs2:=Lib.hid hs2
   have hk1 : IntKind.i64.wrap ((k : Int)+1)=(k : Int)+1:=IntWalk.i64_in _ (by omega)
   go_enter Tryz.func152,Tryz.ntmps152
   go_wp2_with (go_at_call 113;refine hC.out.mono ?_;rintro e w1 ⟨rfl,hE⟩;rw [h0.out])
   go_region_held3 (fun w'=>Ext w1 w') (first | exact (Ext.refl _).drew | exact Ext.trans (by assumption) hE3 | exact Ext.trans (by assumption) hE2) (first | (go_at_call 91;refine (clone_Stack (l:=l.take (k+1)) (Its.ext ?_ (hE.trans (by assumption))) ?_).mono ?_;(exact hW.out.take (k+1) (by omega));(simp;omega);rintro e w2 ⟨v2,rfl,hO,hE2⟩) | (go_at_call 158;refine (clone_Items (l:=l.drop (k+1)) (Its.ext ?_ (hE.trans (by assumption))) ?_).mono ?_;(exact hs2.out _ hW.out);(simp;omega);rintro e w3 ⟨v3,rfl,hO',hE3⟩))
   go_wp2
   go_ret3
   unfold aboveOf belowOf
   rw [e1.out]
   exact ⟨_,_,rfl,(hO.ext hE3).mono hE.size,hO'.mono (hE.trans ((Ext.refl w1).drew.trans hE2)).size,hE.trans (by assumption)⟩
  ·have e1 : Hid (atErr l at'=2):=Hid.mk (by simp [atErr,hk,hr])
   have hr' : at' < 0∨(0≤at'∧(l.length : Int)≤at'):=by omega
   clear hr hk
   rcases hr' with hr' | ⟨hr1,hr2⟩
   all_goals
    go_enter Tryz.func152,Tryz.ntmps152
    go_wp2_with (go_at_call 113;refine hC.out.mono ?_;rintro e w1 ⟨rfl,hE⟩;rw [h0.out])
    go_ret3
    unfold aboveOf belowOf
    rw [e1.out]
    exact ⟨_,_,rfl,Own.nil _ _ _ _,Own.nil _ _ _ _,hE⟩
set_option maxHeartbeats 400000 in
theorem items_Above {l : List Item} {v : Value} {w : World} (at' : Int) (hl : Its w v l) :
  Calls Tryz.prog 140 #[v,.int .i64 at'] w (RetLN 70 w (aboveOf l at') (atErr l at')):=by
 have hC:=Lib.hid (items_cut at' hl)
 obtain ⟨a,cp,rfl,hlc,hcm,hnn⟩:=hl.form
 clear hl
 go_enter Tryz.func140,Tryz.ntmps140
 go_wp2_with (go_at_call 152;refine hC.out.mono ?_;rintro e w1 ⟨v1,v2,rfl,hO1,hO2,hE⟩)
 go_ret2
 exact ⟨_,rfl,hO2,hE⟩
set_option maxHeartbeats 400000 in
theorem items_Below {l : List Item} {v : Value} {w : World} (at' : Int) (hl : Its w v l) :
  Calls Tryz.prog 139 #[v,.int .i64 at'] w (RetLN 70 w (belowOf l at') (atErr l at')):=by
 have hC:=Lib.hid (items_cut at' hl)
 obtain ⟨a,cp,rfl,hlc,hcm,hnn⟩:=hl.form
 clear hl
 go_enter Tryz.func139,Tryz.ntmps139
 go_wp2_with (go_at_call 152;refine hC.out.mono ?_;rintro e w1 ⟨v1,v2,rfl,hO1,hO2,hE⟩)
 go_ret2
 exact ⟨_,rfl,hO1,hE⟩
end Go.Proofs.YtnplphcnagooeaaGreatDoor

/- Contracts: access.use, and the reference's Used. -/
namespace Go.Proofs.YtnplphcnagooeaaGreatDoor
set_option maxRecDepth 100000
open Go.RowKit
def actAt (m : List Item) (i : Nat) : List Item :=
 match m[i]? with
 | some x=>if x.p=2 then m.set i ⟨1,x.t,x.c⟩ else m
 | none=>m
def useLeft (l : List Item) (i : Nat) (write : Bool) : List Item:=if write then actAt (l.take (i+1)) i else l.take (i+1) ++ (l.drop (i+1)).filter (fun x=>x.p != 1)
def useGone (l : List Item) (i : Nat) (write : Bool) : List Item:=if write then l.drop (i+1) else (l.drop (i+1)).filter (fun x=>x.p == 1)
def usedL (l : List Item) (tag : Int) (write : Bool) : List Item:=match findAt l tag write with | some i=>useLeft l i write | none=>[]
def usedG (l : List Item) (tag : Int) (write : Bool) : List Item:=match findAt l tag write with | some i=>useGone l i write | none=>[]
def usedW (l : List Item) (tag : Int) (write : Bool) : Int:=match findAt l tag write with | some _=>0 | none=>1
def accL (l : List Item) (tag : Int) (write : Bool) : List Item:=if okS l then usedL l tag write else []
def accG (l : List Item) (tag : Int) (write : Bool) : List Item:=if okS l then usedG l tag write else []
def accW (l : List Item) (tag : Int) (write : Bool) : Int:=if okS l then usedW l tag write else 0
def RetU (w : World) (l m : List Item) (why n : Int) (en : Ending) (w' : World) : Prop := ∃ v u,en = .returned (.tuple #[v,u,.int .u8 why,.int .i64 n])∧Its w' v l∧Its w' u m∧Ext w w'
def RetU3 (w : World) (l m : List Item) (why : Int) (en : Ending) (w' : World) : Prop := ∃ v u,en = .returned (.tuple #[v,u,.int .u8 why])∧Its w' v l∧Its w' u m∧Ext w w'
def RetUO (w : World) (l m : List Item) (why n : Int) (en : Ending) (w' : World) : Prop := ∃ v u,en = .returned (.tuple #[v,u,.int .u8 why,.int .i64 n])∧Own w' w.heap.size 70 3 v l.length (l.flatMap Item.row)∧Own w' w.heap.size 70 3 u m.length (m.flatMap Item.row)∧(∀ g,v.ownBlock=some g→u.ownBlock≠some g)∧Ext w w'
def RetUO3 (w : World) (l m : List Item) (why : Int) (en : Ending) (w' : World) : Prop := ∃ v u,en = .returned (.tuple #[v,u,.int .u8 why])∧Own w' w.heap.size 70 3 v l.length (l.flatMap Item.row)∧Own w' w.heap.size 70 3 u m.length (m.flatMap Item.row)∧(∀ g,v.ownBlock=some g→u.ownBlock≠some g)∧Ext w w'
theorem RetUO.weak {w : World} {l m : List Item} {why n : Int} {en : Ending} {w' : World} (h : RetUO w l m why n en w') : RetU w l m why n en w':=by
 obtain ⟨v,u,h1,h2,h3,-,h5⟩:=h
 exact ⟨v,u,h1,h2.sl,h3.sl,h5⟩
theorem RetUO3.weak {w : World} {l m : List Item} {why : Int} {en : Ending} {w' : World} (h : RetUO3 w l m why en w') : RetU3 w l m why en w':=by
 obtain ⟨v,u,h1,h2,h3,-,h5⟩:=h
 exact ⟨v,u,h1,h2.sl,h3.sl,h5⟩
theorem RetUO.none {w w' : World} {why n : Int} (h : Ext w w') : RetUO w [] [] why n (.returned (.tuple #[.slice none 0 0,.slice none 0 0,.int .u8 why,.int .i64 n])) w':=⟨_,_,rfl,Own.nil _ _ _ _,Own.nil _ _ _ _,(fun g h=>by cases h),h⟩
theorem rows_setp (q : Int) : ∀ (l : List Item) (i : Nat) (x : Item),l[i]? = some x→(l.flatMap Item.row).set (i * 3) (.int .u8 q)=(l.set i ⟨q,x.t,x.c⟩).flatMap Item.row
 | [],i,x,h=>by simp at h
 | y :: l,0,x,h=>by
  simp only [List.getElem?_cons_zero,Option.some.injEq] at h
  subst h
  rfl
 | y :: l,i+1,x,h=>by
  have ih:=rows_setp q l i x (by simpa using h)
  rw [List.flatMap_cons,List.set_cons_succ,List.flatMap_cons,← ih,List.set_append,if_neg (by rw [Item.row_len];omega),Item.row_len,show (i+1) * 3 - 3=i * 3 by omega]
theorem take_get {l : List Item} {i : Nat} {x : Item} (hx : l[i]? = some x) : (l.take (i+1))[i]? = some x:=by rw [List.getElem?_take,if_pos (by omega),hx]
def UseInv (q : Item→Bool) (w0 w3 : World) (lo : Nat) (m n : List Item) (k : Nat) (lf gn : Value) (wr : World) : Prop :=
 (Own wr w0.heap.size 70 3 lf (m ++ (n.take k).filter (fun x => !q x)).length ((m ++ (n.take k).filter (fun x => !q x)).flatMap Item.row) ∧
  Own wr w0.heap.size 70 3 gn ((n.take k).filter q).length (((n.take k).filter q).flatMap Item.row)) ∧
 ((∀ g,lf.ownBlock=some g→g < lo∨w3.heap.size≤g)∧(∀ g,gn.ownBlock=some g→w3.heap.size≤g)∧(∀ g,lf.ownBlock=some g→gn.ownBlock≠some g)) ∧
 Ext w0 wr∧w3.heap.size≤wr.heap.size ∧ ∀ b,lo≤b→b < w3.heap.size→wr.heap[b]? = w3.heap[b]?
theorem UseInv.start {q : Item→Bool} {w0 w3 : World} {lo : Nat} {m n : List Item} {lf : Value} (hE : Ext w0 w3) (h : Own w3 w0.heap.size 70 3 lf m.length (m.flatMap Item.row)) (hlo : ∀ g,lf.ownBlock=some g→g < lo) :
  UseInv q w0 w3 lo m n 0 lf (.slice none 0 0) w3:=by
 refine ⟨⟨?_,?_⟩,⟨fun g hg => .inl (hlo g hg),fun g hg=>by simp [Value.ownBlock] at hg,fun g _=>by simp [Value.ownBlock]⟩,hE,Nat.le_refl _,fun b _ _=>rfl⟩
 ·simpa using h
 ·simpa using Own.nil w3 w0.heap.size 70 3
theorem UseInv.above {q : Item→Bool} {w0 w3 : World} {lo : Nat} {m n : List Item} {k : Nat} {lf gn av : Value} {wr : World} (h : UseInv q w0 w3 lo m n k lf gn wr) (hO : Own w3 lo 70 3 av n.length (n.flatMap Item.row)) : Its wr av n :=
 hO.sl.of_block fun g hg=>h.2.2.2.2 g (hO.lt hg).1 (hO.lt hg).2
theorem UseInv.left {q : Item→Bool} {w0 w3 : World} {lo : Nat} {m n : List Item} {k : Nat} {lf gn lf' : Value} {wr wx w' : World} {x : Item} (h : UseInv q w0 w3 lo m n k lf gn wr) (hx : n[k]? = some x) (hp : q x=false) (hE : Ext wr wx)
  (hO : Own w' w0.heap.size 70 3 lf' ((m ++ (n.take k).filter (fun x => !q x)).length+1) ((m ++ (n.take k).filter (fun x => !q x)).flatMap Item.row ++ x.row)) (hK : Keeps wx w' w0.heap.size lf)
  (hb : lf'.ownBlock=lf.ownBlock ∨ ∃ g,lf'.ownBlock=some g∧wx.heap.size≤g) : UseInv q w0 w3 lo m n (k+1) lf' gn w':=by
 obtain ⟨⟨h1,h2⟩,⟨h3,h4,h5⟩,h6,h7,h8⟩:=h
 have e1 : (n.take (k+1)).filter (fun x => !q x)=(n.take k).filter (fun x => !q x) ++ [x]:=by rw [List.take_add_one,hx,List.filter_append];simp [hp]
 have e2 : (n.take (k+1)).filter q=(n.take k).filter q:=by rw [List.take_add_one,hx,List.filter_append];simp [hp]
 have hs:=hE.size
 have hs':=hK.below.size
 refine ⟨⟨?_,?_⟩,⟨?_,h4,?_⟩,Below.trans (h6.trans hE) hK.below,by omega,fun b hb1 hb2 => ?_⟩
 ·rw [e1,← List.append_assoc,List.length_append,List.flatMap_append]
  simpa using hO
 ·rw [e2]
  exact (h2.ext hE).keeps hK (fun g hg e=>h5 g e hg)
 ·intro g hg
  rcases hb with hb | ⟨g',hb,hge⟩
  ·exact h3 g (hb ▸ hg)
  ·rw [hb] at hg;cases hg;right;omega
 ·intro g hg e
  rcases hb with hb | ⟨g',hb,hge⟩
  ·exact h5 g (hb ▸ hg) e
  ·rw [hb] at hg;cases hg
   have:=(h2.lt e).2
   omega
 ·rw [hK.block b (by omega) (fun e=>by rcases h3 b e with h | h <;> omega),hE.blk (by omega),h8 b hb1 hb2]
theorem UseInv.gone {q : Item→Bool} {w0 w3 : World} {lo : Nat} {m n : List Item} {k : Nat} {lf gn gn' : Value} {wr wx w' : World} {x : Item} (h : UseInv q w0 w3 lo m n k lf gn wr) (hx : n[k]? = some x) (hp : q x=true) (hE : Ext wr wx)
  (hO : Own w' w0.heap.size 70 3 gn' (((n.take k).filter q).length+1) (((n.take k).filter q).flatMap Item.row ++ x.row)) (hK : Keeps wx w' w0.heap.size gn)
  (hb : gn'.ownBlock=gn.ownBlock ∨ ∃ g,gn'.ownBlock=some g∧wx.heap.size≤g) : UseInv q w0 w3 lo m n (k+1) lf gn' w':=by
 obtain ⟨⟨h1,h2⟩,⟨h3,h4,h5⟩,h6,h7,h8⟩:=h
 have e1 : (n.take (k+1)).filter (fun x => !q x)=(n.take k).filter (fun x => !q x):=by rw [List.take_add_one,hx,List.filter_append];simp [hp]
 have e2 : (n.take (k+1)).filter q=(n.take k).filter q ++ [x]:=by rw [List.take_add_one,hx,List.filter_append];simp [hp]
 have hs:=hE.size
 have hs':=hK.below.size
 refine ⟨⟨?_,?_⟩,⟨h3,?_,?_⟩,Below.trans (h6.trans hE) hK.below,by omega,fun b hb1 hb2 => ?_⟩
 ·rw [e1]
  exact (h1.ext hE).keeps hK (fun g hg e=>h5 g hg e)
 ·rw [e2,List.length_append,List.flatMap_append]
  simpa using hO
 ·intro g hg
  rcases hb with hb | ⟨g',hb,hge⟩
  ·exact h4 g (hb ▸ hg)
  ·rw [hb] at hg;cases hg;omega
 ·intro g hg e
  rcases hb with hb | ⟨g',hb,hge⟩
  ·exact h5 g hg (hb ▸ e)
  ·rw [hb] at e;cases e
   have:=(h1.lt hg).2
   omega
 ·rw [hK.block b (by omega) (fun e=>by have:=h4 b e;omega),hE.blk (by omega),h8 b hb1 hb2]
end Go.Proofs.YtnplphcnagooeaaGreatDoor

/- Plain laws of layer 29: what an access leaves, no program in sight. -/
namespace Go.Proofs.YtnplphcnagooeaaGreatDoor
set_option maxRecDepth 100000
open Go.RowKit
theorem actAt_len (m : List Item) (i : Nat) : (actAt m i).length=m.length:=by
 unfold actAt;split
 ·split <;> simp
 ·rfl
theorem useLeft_len (l : List Item) (i : Nat) (write : Bool) : (useLeft l i write).length≤l.length:=by
 unfold useLeft
 cases write
 ·simp only [Bool.false_eq_true,if_false,List.length_append]
  have:=List.length_filter_le (fun x : Item=>x.p != 1) (l.drop (i+1))
  rw [List.length_drop] at this
  rw [List.length_take]
  omega
 ·simp only [if_true,actAt_len,List.length_take]
  omega
theorem useLeft_mem {l : List Item} {i : Nat} {write : Bool} {y : Item} (hy : y ∈ useLeft l i write) : y ∈ l ∨ ∃ x ∈ l,x.p=2∧y=⟨1,x.t,x.c⟩:=by
 unfold useLeft at hy
 cases write
 ·simp only [Bool.false_eq_true,if_false,List.mem_append,List.mem_filter] at hy
  rcases hy with h | ⟨h,-⟩
  ·exact .inl (List.mem_of_mem_take h)
  ·exact .inl (List.mem_of_mem_drop h)
 ·simp only [if_true] at hy
  unfold actAt at hy
  split at hy
  ·rename_i x hx
   split at hy
   ·rename_i hp
    rcases List.mem_or_eq_of_mem_set hy with h | h
    ·exact .inl (List.mem_of_mem_take h)
    ·exact .inr ⟨x,List.mem_of_mem_take (List.mem_of_getElem? hx),hp,h⟩
   ·exact .inl (List.mem_of_mem_take hy)
  ·exact .inl (List.mem_of_mem_take hy)
theorem useLeft_ok {l : List Item} {i : Nat} {write : Bool} (h : okS l=true) : okS (useLeft l i write)=true:=by
 unfold okS at *
 simp only [Bool.and_eq_true,decide_eq_true_eq,List.all_eq_true] at *
 refine ⟨Nat.le_trans (useLeft_len _ _ _) h.1,fun y hy => ?_⟩
 rcases useLeft_mem hy with h1 | ⟨x,h1,h2,rfl⟩
 ·exact h.2 y h1
 ·have:=h.2 x h1
  unfold Item.ok at *
  simp [h2] at *
  exact this
end Go.Proofs.YtnplphcnagooeaaGreatDoor

/- What is read from the blocks of an interval alone; no program in sight. -/
namespace Go.Proofs.YtnplphcnagooeaaGreatDoor
set_option maxRecDepth 100000
open Go.RowKit
def Foot (B T : Nat) (w : World) (R : World→Prop) : Prop := ∀ w'' : World,(∀ b,B≤b→b < T→w''.heap[b]? = w.heap[b]?)→R w''
section
variable {B B' T T' : Nat} {w w' : World} {R R' : World→Prop}
theorem Foot.read (h : Foot B T w R) : R w:=h w fun _ _ _=>rfl
theorem Foot.of_all (h : ∀ w,R w) : Foot B T w R:=fun w'' _=>h w''
theorem Foot.mono (h : Foot B T w R) (hB : B'≤B) (hT : T≤T') : Foot B' T' w R:=fun w'' hb=>h w'' fun b h1 h2=>hb b (Nat.le_trans hB h1) (Nat.lt_of_lt_of_le h2 hT)
theorem Foot.imp (h : Foot B T w R) (hr : ∀ w,R w→R' w) : Foot B T w R':=fun w'' hb=>hr _ (h w'' hb)
theorem Foot.keep (h : Foot B T w R) (hb : ∀ b,B≤b→b < T→w'.heap[b]? = w.heap[b]?) : Foot B T w' R:=fun w'' h2=>h w'' fun b h3 h4=>(h2 b h3 h4).trans (hb b h3 h4)
theorem Foot.ext (h : Foot B T w R) (hE : Ext w w') (hT : T≤w.heap.size) : Foot B T w' R:=h.keep fun _ _ h2=>hE.blk (Nat.lt_of_lt_of_le h2 hT)
theorem Foot.but {S : Nat→Prop} (h : Foot B T w R) (hE : ExtBut S w w') (hT : T≤w.heap.size) (hS : ∀ b,S b→b < B∨T≤b) : Foot B T w' R :=
 h.keep fun b h1 h2=>hE.block b (Nat.lt_of_lt_of_le h2 hT) fun hs=>by rcases hS b hs with h | h <;> omega
theorem Foot.set (h : Foot B T w R) {p : Addr} (hp : p.block < B∨T≤p.block) (u : Value) : Foot B T (w.setCell p u) R :=
 h.keep fun b h1 h2=>Below.heap_setCell _ _ _ _ (fun e=>by subst e;rcases hp with h | h <;> omega)
end
theorem Sl.foot {w : World} {B k n : Nat} {v : Value} {xs : List Value} (h : Sl w k v n xs) {T : Nat} (hg : ∀ g,v.ownBlock=some g→B≤g∧g < T) : Foot B T w (fun w=>Sl w k v n xs) :=
 fun _ hb=>h.of_block fun g e=>hb g (hg g e).1 (hg g e).2
theorem Own.foot {w : World} {B T : Nat} {e : TypeId} {k : Nat} {v : Value} {n : Nat} {xs : List Value} (h : Own w B e k v n xs) (hT : w.heap.size≤T) : Foot B T w (fun w=>Sl w k v n xs) :=
 h.sl.foot fun _ hg=>⟨(h.lt hg).1,Nat.lt_of_lt_of_le (h.lt hg).2 hT⟩
def CExt (w w' : World) : Prop := ∀ (p : Addr) (v : Value),w.cell? p=some v→w'.cell? p=some v
theorem Sl.cext {w w' : World} {k n : Nat} {v : Value} {xs : List Value} (h : Sl w k v n xs) (hc : CExt w w') : Sl w' k v n xs:=by
 obtain ⟨h1,a,cap,h2,h3,h4,h5,h6⟩:=h
 refine ⟨h1,a,cap,h2,h3,h4,h5,fun j u hj => ?_⟩
 obtain ⟨b,off,e,hcell⟩:=h6 j u hj
 exact ⟨b,off,e,hc _ _ hcell⟩
theorem Tb.cext {α : Type} {row : Value→α→List Value} {k : Nat} {R R' : Value→α→Prop} {w w' : World} {v : Value} {l : List α} (h : Tb row k R w v l) (hc : CExt w w') (hr : ∀ s a,R s a→R' s a) : Tb row k R' w' v l:=by
 obtain ⟨vs,h1,h2⟩:=h
 exact ⟨vs,h1.mono hr,h2.cext hc⟩
theorem Foot.of_but {B : Nat} {w' : World} {R : World→Prop} (hR : ∀ w1 w2,CExt w1 w2→R w1→R w2) (h : ∀ w'' : World,ExtBut (fun b=>b < B) w' w''→R w'') : Foot B w'.heap.size w' R:=by
 intro w'' hb
 have hx : CExt { w' with heap:=w''.heap ++ Array.replicate (w'.heap.size - w''.heap.size) (.cells #[] 0 (0,0)) } w'':=by
  intro p v hv
  by_cases hp : p.block < w''.heap.size
  ·rw [← hv]
   exact (World.cell?_of_block (by show (w''.heap ++ _)[p.block]? = _;rw [Array.getElem?_append_left hp])).symm
  ·exfalso
   have hn : (w''.heap ++ Array.replicate (w'.heap.size - w''.heap.size) (Obj.cells #[] 0 (0,0)))[p.block]? = none∨(w''.heap ++ Array.replicate (w'.heap.size - w''.heap.size) (Obj.cells #[] 0 (0,0)))[p.block]? = some (.cells #[] 0 (0,0)):=by
    rw [Array.getElem?_append_right (by omega),Array.getElem?_replicate]
    split
    ·exact .inr rfl
    ·exact .inl rfl
   rcases hn with hn | hn <;> simp [World.cell?,hn] at hv
 refine hR _ _ hx (h _ ⟨rfl,rfl,rfl,?_,fun b hlt hS => ?_⟩)
 ·show w'.heap.size≤(w''.heap ++ _).size
  rw [Array.size_append,Array.size_replicate];omega
 ·have e:=hb b (by omega) hlt
  have hlt2 : b < w''.heap.size:=by
   rcases Nat.lt_or_ge b w''.heap.size with h | h
   ·exact h
   ·rw [Array.getElem?_eq_none h,Array.getElem?_eq_getElem hlt] at e;cases e
  show (w''.heap ++ _)[b]? = _
  rw [Array.getElem?_append_left hlt2,e]
end Go.Proofs.YtnplphcnagooeaaGreatDoor

/- What the functions of layers 30 to 32 compute; no program in sight. -/
namespace Go.Proofs.YtnplphcnagooeaaGreatDoor
set_option maxRecDepth 100000
open Go.RowKit
def kindOk (k : Int) : Bool:=decide (1≤k) && decide (k≤4)
def kindErr (k : Int) : Int:=if kindOk k then 0 else 2
def permOf (k : Int) : Int:=if k=1 then 4 else if k=2 then 1 else if k=3 then 2 else 3
def writesOf (k : Int) : Bool:=k == 2 || k == 4
def argOk (x : Item) : Bool:=x.p == 0 && inB x.t && inB x.c
def retagR (l : List Item) (k old : Int) (x : Item) : List Item × List Item × Int × Int :=
 if okS l then
  if kindOk k && argOk x then
   if usedW l old (writesOf k)=0 then
    if (usedL l old (writesOf k)).length=600 then ([],[],0,18)
    else (usedL l old (writesOf k) ++ [⟨permOf k,x.t,x.c⟩],usedG l old (writesOf k),0,0)
   else ([],[],usedW l old (writesOf k),0)
  else ([],[],0,2)
 else ([],[],0,8)
theorem retagR_bad {l : List Item} {k old : Int} {x : Item} (h : okS l=false) : retagR l k old x=([],[],0,8):=by simp [retagR,h]
theorem retagR_arg {l : List Item} {k old : Int} {x : Item} (h : okS l=true) (ha : (kindOk k && argOk x)=false) : retagR l k old x=([],[],0,2):=by simp [retagR,h,ha]
theorem retagR_no {l : List Item} {k old : Int} {x : Item} (h : okS l=true) (ha : (kindOk k && argOk x)=true) (hw : usedW l old (writesOf k)≠0) : retagR l k old x=([],[],usedW l old (writesOf k),0):=by simp [retagR,h,ha,hw]
theorem retagR_full {l : List Item} {k old : Int} {x : Item} (h : okS l=true) (ha : (kindOk k && argOk x)=true) (hw : usedW l old (writesOf k)=0) (hf : (usedL l old (writesOf k)).length=600) : retagR l k old x=([],[],0,18):=by simp [retagR,h,ha,hw,hf]
theorem retagR_yes {l : List Item} {k old : Int} {x : Item} (h : okS l=true) (ha : (kindOk k && argOk x)=true) (hw : usedW l old (writesOf k)=0) (hf : ¬ (usedL l old (writesOf k)).length=600) :
  retagR l k old x=(usedL l old (writesOf k) ++ [⟨permOf k,x.t,x.c⟩],usedG l old (writesOf k),0,0):=by simp [retagR,h,ha,hw,hf]
theorem permOf_ok (k : Int) : 1≤permOf k∧permOf k≤4:=by
 unfold permOf
 split
 ·omega
 ·split
  ·omega
  ·split <;> omega
theorem usedW_cases (l : List Item) (tag : Int) (write : Bool) : usedW l tag write=0∧(findAt l tag write).isSome=true∨usedW l tag write=1∧(findAt l tag write)=none:=by
 unfold usedW
 cases findAt l tag write with
 | none=>exact .inr ⟨rfl,rfl⟩
 | some i=>exact .inl ⟨rfl,rfl⟩
theorem usedL_ok {l : List Item} {tag : Int} {write : Bool} (h : okS l=true) : okS (usedL l tag write)=true:=by
 unfold usedL
 cases findAt l tag write with
 | none=>rfl
 | some i=>exact useLeft_ok h
theorem newItem_ok {k : Int} {x : Item} (h : argOk x=true) : Item.ok ⟨permOf k,x.t,x.c⟩=true:=by
 unfold argOk at h
 simp only [Bool.and_eq_true] at h
 have hp:=permOf_ok k
 obtain hp | hp | hp | hp : permOf k=1∨permOf k=2∨permOf k=3∨permOf k=4:=by omega
 all_goals simp [Item.ok,hp,h.1.2,h.2]
def toldR' (l gone : List Item) (why e : Int) (run : List Int) : List Item × Int × Int:=if e=0∧why=0∧(firstR gone run).isSome=true then ([],2,0) else (l,why,e)
theorem toldR'_no {l gone : List Item} {why e : Int} {run : List Int} (h : ¬ (e=0∧why=0∧(firstR gone run).isSome=true)) : toldR' l gone why e run=(l,why,e):=by rw [toldR',if_neg h]
theorem toldR'_yes {l gone : List Item} {why e : Int} {run : List Int} (h : e=0∧why=0∧(firstR gone run).isSome=true) : toldR' l gone why e run=([],2,0):=by rw [toldR',if_pos h]
def useR (l : List Item) (tag : Int) (write : Bool) (run : List Int) : List Item × Int × Int:=if okR run then toldR' (accL l tag write) (accG l tag write) (accW l tag write) (chk l) run else ([],0,8)
def tagR (l : List Item) (k old : Int) (x : Item) (run : List Int) : List Item × Int × Int:=if okR run then toldR' (retagR l k old x).1 (retagR l k old x).2.1 (retagR l k old x).2.2.1 (retagR l k old x).2.2.2 run else ([],0,8)
end Go.Proofs.YtnplphcnagooeaaGreatDoor

/- Contracts: access.use. -/
namespace Go.Proofs.YtnplphcnagooeaaGreatDoor
set_option maxRecDepth 100000
open Go.RowKit
set_option maxHeartbeats 1600000 in
theorem access_useO {l : List Item} {v : Value} {w : World} (tag : Int) (write : Bool) (hl : Its w v l) :
  Calls Tryz.prog 128 #[v,.int .i64 tag,.bool write] w (RetUO w (accL l tag write) (accG l tag write) (accW l tag write) (chk l)):=by
 have hF0:=Ext.refl w
 have hL:=hl
 obtain ⟨a,cp,rfl,hlc,hcm,-⟩:=hl.form
 unfold maxLen at hcm
 clear hl
 cases hk : okS l
 ·have hi : Hid (findIx l tag write=0):=Hid.mk (by simp [findIx,hk])
  have he : Hid (findErr l tag write=8):=Hid.mk (by simp [findErr,hk])
  have e1 : Hid (accL l tag write=[]∧accG l tag write=[]∧accW l tag write=0∧chk l=8):=Hid.mk (by simp [accL,accG,accW,chk,hk])
  clear hk
  go_enter Tryz.func128,Tryz.ntmps128
  go_wp2_with fail
  refine (items_Find tag write hL).mono ?_
  rintro e w1 ⟨rfl,hE1⟩
  rw [hi.out,he.out]
  go_wp2
  refine bodyPost_ret (results_tmp4 rfl _ _ _) rfl ?_
  rw [e1.out.1,e1.out.2.1,e1.out.2.2.1,e1.out.2.2.2]
  exact RetUO.none hE1
 ·cases hf : findAt l tag write with
  | none =>
   have hi : Hid (findIx l tag write=0):=Hid.mk (by simp [findIx,hk,hf])
   have he : Hid (findErr l tag write=6):=Hid.mk (by simp [findErr,hk,hf])
   have e1 : Hid (accL l tag write=[]∧accG l tag write=[]∧accW l tag write=1∧chk l=0):=Hid.mk (by simp [accL,accG,accW,usedL,usedG,usedW,chk,hk,hf])
   clear hk hf
   go_enter Tryz.func128,Tryz.ntmps128
   go_wp2_with fail
   refine (items_Find tag write hL).mono ?_
   rintro e w1 ⟨rfl,hE1⟩
   rw [hi.out,he.out]
   go_wp2
   refine bodyPost_ret (results_tmp4 rfl _ _ _) rfl ?_
   rw [e1.out.1,e1.out.2.1,e1.out.2.2.1,e1.out.2.2.2]
   exact RetUO.none hE1
  | some i =>
   obtain ⟨x,hx,-,-⟩:=findAt_is hf
   have hil : i < l.length:=(List.getElem?_eq_some_iff.1 hx).1
   have hi : Hid (findIx l tag write=(i : Int)):=Hid.mk (by simp [findIx,hk,hf])
   have he : Hid (findErr l tag write=0):=Hid.mk (by simp [findErr,hk,hf])
   have hae : Hid (atErr l (i : Int)=0):=Hid.mk (by simp [atErr,hk,hil])
   have hl6 : l.length≤600:=by simp [okS] at hk;omega
   have e1 : Hid (accL l tag write=useLeft l i write∧accG l tag write=useGone l i write∧accW l tag write=0∧chk l=0):=Hid.mk (by simp [accL,accG,accW,usedL,usedG,usedW,chk,hk,hf])
   obtain ⟨m,hm⟩ : ∃ m,l.take (i+1)=m:=⟨_,rfl⟩
   obtain ⟨n,hn⟩ : ∃ n,l.drop (i+1)=n:=⟨_,rfl⟩
   have hb : Hid (belowOf l (i : Int)=m):=Hid.mk (by unfold belowOf;rw [hae.out];simp [hm])
   have ha : Hid (aboveOf l (i : Int)=n):=Hid.mk (by unfold aboveOf;rw [hae.out];simp [hn])
   have him : i < m.length:=by rw [← hm];simp;omega
   have hm6 : m.length≤600:=by rw [← hm];simp;omega
   have hnl : n.length≤600:=by rw [← hn];simp;omega
   have hmx : Hid (m[i]? = some x):=Hid.mk (by rw [← hm];exact take_get hx)
   have hm:=Lib.hid hm;have hn:=Lib.hid hn
   clear hk hf hx
   obtain ⟨ty,zz,hty,hz,hi3,hz3,hby⟩:=Item.infoE
   have hty:=Lib.hid hty;have hz:=Lib.hid hz;have hi3:=Lib.hid hi3;have hz3:=Lib.hid hz3;have hby:=Lib.hid hby
   cases write
   ·have hlf : Hid (useLeft l i false=m ++ n.filter (fun x => !(x.p == 1))):=Hid.mk (by simp only [useLeft,hm.out,hn.out];rfl)
    have hgn : Hid (useGone l i false=n.filter (fun x=>x.p == 1)):=Hid.mk (by simp [useGone,hn.out])
    go_enter Tryz.func128,Tryz.ntmps128
    go_wp2_with fail
    refine (items_Find tag _ hL).mono ?_
    rintro e w1 ⟨rfl,hE1⟩
    rw [hi.out,he.out]
    replace hL:=hL.ext hE1
    go_wp2_with fail
    refine (items_Below (i : Int) hL).mono ?_
    rintro e w2 ⟨vl,rfl,hvl,hE2⟩
    rw [hb.out] at hvl
    rw [hae.out]
    replace hL:=hL.ext hE2
    go_wp2_with fail
    refine (items_Above (i : Int) hL).mono ?_
    rintro e w3 ⟨va,rfl,hva,hE3⟩
    rw [ha.out] at hva
    rw [hae.out]
    have hF2:=hE1.trans hE2
    have hF3:=hF2.trans hE3
    have hvl3:=hvl.ext hE3
    have hI0 : UseInv (fun x=>x.p == 1) w w3 w2.heap.size m n 0 vl (.slice none 0 0) w3:=UseInv.start hF3 (hvl3.mono hE1.size) (fun g hg=>(hvl.lt hg).2)
    obtain ⟨g1,c1,rfl,hc1,hc2,-⟩:=hvl3.form (by omega)
    obtain ⟨a2,cp2,rfl,hc3,hc4,-⟩:=hva.sl.slice_form
    unfold maxLen at hc2 hc4
    clear hvl
    go_wp2
    go_loopw [12,16,58] (fun lf gn i wr => ∃ k : Nat,k≤n.length∧i = .int .i64 k∧UseInv (fun x=>x.p == 1) w w3 w2.heap.size m n k lf gn wr) (fun _ _ i _=>n.length - (intOf i).toNat)
    case atStart=>exact ⟨0,Nat.zero_le _,rfl,hI0⟩
    case round =>
     obtain ⟨k,hk,rfl,hI⟩:=hrel
     by_cases hlt : k < n.length
     ·obtain ⟨y,hy⟩ : ∃ y,n[k]? = some y:=⟨n[k],by simp [hlt]⟩
      have hA:=hI.above hva
      obtain ⟨b,off,rfl,hb,d0,d1,d2⟩:=hA.cell hy
      have hY:=Lib.hid hy
      clear hy
      have hI':=Lib.hid hI
      have hA':=Lib.hid hA
      clear hI hA
      have hE : Ext wr ((wr.alloc (.cells #[.int .u8 y.p,.int .i64 y.t,.int .i64 y.c] 70)).alloc (.cells #[.int .u8 y.p,.int .i64 y.t,.int .i64 y.c] 70)):=((Ext.refl wr).alloc _).alloc _
      have hx : Sl ((wr.alloc (.cells #[.int .u8 y.p,.int .i64 y.t,.int .i64 y.c] 70)).alloc (.cells #[.int .u8 y.p,.int .i64 y.t,.int .i64 y.c] 70)) 3 (.slice (some ⟨wr.heap.size+1,0,none⟩) 1 1) 1 y.row:=by
       have:=(Own.lit (B:=0) (e:=70) (k:=3) (wr.alloc (.cells #[.int .u8 y.p,.int .i64 y.t,.int .i64 y.c] 70)) #[.int .u8 y.p,.int .i64 y.t,.int .i64 y.c] 1 (Nat.zero_le _) (by simp [maxLen]) rfl).sl
       rw [show (wr.alloc (.cells #[.int .u8 y.p,.int .i64 y.t,.int .i64 y.c] 70)).heap.size=wr.heap.size+1 by simp] at this
       exact this
      have hl1 : (m ++ (n.take k).filter (fun x => !(x.p == 1))).length≤1200:=by
       have:=List.length_filter_le (fun x : Item => !(x.p == 1)) (n.take k)
       rw [List.length_append];rw [List.length_take] at this;omega
      have hl2 : ((n.take k).filter (fun x=>x.p == 1)).length≤600:=by
       have:=List.length_filter_le (fun x : Item=>x.p == 1) (n.take k)
       rw [List.length_take] at this;omega
      have hEs:=Lib.hid (hI'.out.2.2.1.trans hE).size
      have hE:=Lib.hid hE;have hx:=Lib.hid hx;have hl1:=Lib.hid hl1;have hl2:=Lib.hid hl2
      cases hp : y.p == 1
      ·go_wp2_with (at_builtin;refine Hid.out ?_)
       refine Hid.mk ?_
       refine wpList_append_any rfl _ _ 72 72 rfl rfl rfl Tryz.underlying72 Tryz.underlying72 hty.out hz.out hi3.out hz3.out (hI'.out.1.1.ext hE.out) hx.out (by simp [Item.row,Value.oneCell']) (Nat.le_trans (Nat.add_le_add_right hl1.out 1) (by simp [maxLen])) (by rw [hby.out];exact Nat.le_trans (Nat.mul_le_mul_right 24 (Nat.add_le_add_right hl1.out 1)) (by decide)) hEs.out ?_
       intro v' w' hO' hK' hb' _
       have hN:=Lib.hid (hI'.out.left hY.out hp hE.out hO' hK' hb')
       clear hO' hK' hb'
       go_wp2
       go_roundw
       case rel=>exact ⟨k+1,by omega,by go_num,hN.out⟩
       case measure=>simp [intOf];omega
      ·go_wp2_with (at_builtin;refine Hid.out ?_)
       refine Hid.mk ?_
       refine wpList_append_any rfl _ _ 71 71 rfl rfl rfl Tryz.underlying71 Tryz.underlying71 hty.out hz.out hi3.out hz3.out (hI'.out.1.2.ext hE.out) hx.out (by simp [Item.row,Value.oneCell']) (Nat.le_trans (Nat.add_le_add_right hl2.out 1) (by simp [maxLen])) (by rw [hby.out];exact Nat.le_trans (Nat.mul_le_mul_right 24 (Nat.add_le_add_right hl2.out 1)) (by decide)) hEs.out ?_
       intro v' w' hO' hK' hb' _
       have hN:=Lib.hid (hI'.out.gone hY.out hp hE.out hO' hK' hb')
       clear hO' hK' hb'
       go_wp2
       go_roundw
       case rel=>exact ⟨k+1,by omega,by go_num,hN.out⟩
       case measure=>simp [intOf];omega
     ·have hkl : k=n.length:=by omega
      subst hkl
      obtain ⟨⟨h1,h2⟩,⟨-,-,h5⟩,hE,_⟩:=hI
      rw [List.take_length] at h1 h2
      have h1:=Lib.hid h1;have h2:=Lib.hid h2;have h5o:=Lib.hid h5;clear h5
      go_wp2
      refine bodyPost_ret (results_tmp4 rfl _ _ _) rfl ?_
      rw [e1.out.1,e1.out.2.1,e1.out.2.2.1,e1.out.2.2.2,hlf.out,hgn.out]
      exact ⟨_,_,rfl,h1.out,h2.out,h5o.out,hE⟩
   ·have hgn : Hid (useGone l i true=n):=Hid.mk (by simp [useGone,hn.out])
    cases hp : x.p == 2
    rotate_left
    ·have hlf : Hid (useLeft l i true=m.set i ⟨1,x.t,x.c⟩):=Hid.mk (by simp [useLeft,hm.out,actAt,hmx.out];intro e;exact absurd (by simpa using hp) e)
     go_enter Tryz.func128,Tryz.ntmps128
     go_wp2_with fail
     refine (items_Find tag _ hL).mono ?_
     rintro e w1 ⟨rfl,hE1⟩
     rw [hi.out,he.out]
     replace hL:=hL.ext hE1
     go_wp2_with fail
     refine (items_Below (i : Int) hL).mono ?_
     rintro e w2 ⟨vl,rfl,hvl,hE2⟩
     rw [hb.out] at hvl
     rw [hae.out]
     replace hL:=hL.ext hE2
     go_wp2_with fail
     refine (items_Above (i : Int) hL).mono ?_
     rintro e w3 ⟨va,rfl,hva,hE3⟩
     rw [ha.out] at hva
     rw [hae.out]
     have hF2:=hE1.trans hE2
     have hF3:=hF2.trans hE3
     have hvl3:=hvl.ext hE3
     obtain ⟨g1,c1,rfl,hc1,hc2,-⟩:=hvl3.form (by omega)
     obtain ⟨a2,cp2,rfl,hc3,hc4,-⟩:=hva.sl.slice_form
     obtain ⟨b,off,hb',hb,d0,-,-⟩:=Its.cell (l:=m) hvl3.sl hmx.out
     cases hb'
     rw [Nat.zero_add] at d0
     have hfr:=hvl3.frozen (i * 3)
     have hS:=Lib.hid (hvl3.set (i * 3) (.int .u8 1))
     have hK:=Lib.hid (hvl3.setKeeps (B':=w.heap.size) hE1.size (i * 3) (.int .u8 1))
     have hne : Hid (g1 < w2.heap.size):=Hid.mk (hvl.lt rfl).2
     clear hvl hvl3
     go_wp2
     refine bodyPost_ret (results_tmp4 rfl _ _ _) rfl ?_
     rw [e1.out.1,e1.out.2.1,e1.out.2.2.1,e1.out.2.2.2,hlf.out,hgn.out]
     refine ⟨_,_,rfl,?_,(hva.keeps hK.out (fun g hg e => ?_)).mono hF2.size,(fun g e1 e2 => ?_),Below.trans hF3 hK.out.below⟩
     ·have:=hS.out
      rw [rows_setp 1 m i x hmx.out] at this
      rw [List.length_set]
      exact this.mono hE1.size
     ·have:=(hva.lt hg).1
      have:=hne.out
      have e' : g1=g:=by simpa [Value.ownBlock] using e
      omega
     ·have:=(hva.lt e2).1
      have:=hne.out
      have e' : g1=g:=by simpa [Value.ownBlock] using e1
      omega
    ·have hlf : Hid (useLeft l i true=m):=Hid.mk (by simp [useLeft,hm.out,actAt,hmx.out];intro e;simp [e] at hp)
     go_enter Tryz.func128,Tryz.ntmps128
     go_wp2_with fail
     refine (items_Find tag _ hL).mono ?_
     rintro e w1 ⟨rfl,hE1⟩
     rw [hi.out,he.out]
     replace hL:=hL.ext hE1
     go_wp2_with fail
     refine (items_Below (i : Int) hL).mono ?_
     rintro e w2 ⟨vl,rfl,hvl,hE2⟩
     rw [hb.out] at hvl
     rw [hae.out]
     replace hL:=hL.ext hE2
     go_wp2_with fail
     refine (items_Above (i : Int) hL).mono ?_
     rintro e w3 ⟨va,rfl,hva,hE3⟩
     rw [ha.out] at hva
     rw [hae.out]
     have hF2:=hE1.trans hE2
     have hF3:=hF2.trans hE3
     have hvl3:=hvl.ext hE3
     have hvL : Its w3 vl m:=hvl3.sl
     obtain ⟨g1,c1,rfl,hc1,hc2,-⟩:=hvl3.form (by omega)
     obtain ⟨a2,cp2,rfl,hc3,hc4,-⟩:=hva.sl.slice_form
     obtain ⟨b,off,hb',hb,d0,-,-⟩:=Its.cell hvL hmx.out
     cases hb'
     rw [Nat.zero_add] at d0
     have hne : Hid (g1 < w2.heap.size):=Hid.mk (hvl.lt rfl).2
     have hvl3:=Lib.hid hvl3
     clear hvl
     go_wp2
     refine bodyPost_ret (results_tmp4 rfl _ _ _) rfl ?_
     rw [e1.out.1,e1.out.2.1,e1.out.2.2.1,e1.out.2.2.2,hlf.out,hgn.out]
     refine ⟨_,_,rfl,hvl3.out.mono hE1.size,hva.mono hF2.size,(fun g e1 e2 => ?_),hF3⟩
     have:=(hva.lt e2).1
     have:=hne.out
     have e' : g1=g:=by simpa [Value.ownBlock] using e1
     omega
end Go.Proofs.YtnplphcnagooeaaGreatDoor

/- Contracts: the reference's Used. (printed by gen/accc.py) -/
namespace Go.Proofs.YtnplphcnagooeaaGreatDoor
set_option maxRecDepth 100000
open Go.RowKit
end Go.Proofs.YtnplphcnagooeaaGreatDoor

/- Contracts: layer 29, the program's and the reference's, and the helpers of its statements. (printed by gen/accd.py) -/
namespace Go.Proofs.YtnplphcnagooeaaGreatDoor
set_option maxRecDepth 100000
open Go.RowKit
set_option maxHeartbeats 400000 in
theorem access_ReadO {l : List Item} {v : Value} {w : World} (tag : Int) (hl : Its w v l) :
  Calls Tryz.prog 115 #[v,.int .i64 tag] w (RetUO w (accL l tag false) (accG l tag false) (accW l tag false) (chk l)):=by
 have hC:=Lib.hid (access_useO tag false hl)
 obtain ⟨a,cp,rfl,-⟩:=hl.form
 clear hl
 go_enter Tryz.func115,Tryz.ntmps115
 go_wp2_with fail
 refine hC.out.mono ?_
 rintro e w1 ⟨v1,v2,rfl,h1,h2,h3,hE⟩
 have h3o:=Lib.hid h3;clear h3
 go_wp2
 refine bodyPost_ret (results_tmp4 rfl _ _ _) rfl ?_
 exact ⟨_,_,rfl,h1,h2,h3o.out,hE⟩
set_option maxHeartbeats 400000 in
theorem access_WriteO {l : List Item} {v : Value} {w : World} (tag : Int) (hl : Its w v l) :
  Calls Tryz.prog 119 #[v,.int .i64 tag] w (RetUO w (accL l tag true) (accG l tag true) (accW l tag true) (chk l)):=by
 have hC:=Lib.hid (access_useO tag true hl)
 obtain ⟨a,cp,rfl,-⟩:=hl.form
 clear hl
 go_enter Tryz.func119,Tryz.ntmps119
 go_wp2_with fail
 refine hC.out.mono ?_
 rintro e w1 ⟨v1,v2,rfl,h1,h2,h3,hE⟩
 have h3o:=Lib.hid h3;clear h3
 go_wp2
 refine bodyPost_ret (results_tmp4 rfl _ _ _) rfl ?_
 exact ⟨_,_,rfl,h1,h2,h3o.out,hE⟩
end Go.Proofs.YtnplphcnagooeaaGreatDoor

/- Contracts: Push, the program's and the reference's. (printed by gen/push.py) -/
namespace Go.Proofs.YtnplphcnagooeaaGreatDoor
set_option maxRecDepth 100000
open Go.RowKit
def pushErr (l : List Item) (x : Item) : Int:=if okS l then (if x.ok then (if l.length=600 then 18 else 0) else 8) else 8
def pushOf (l : List Item) (x : Item) : List Item:=if pushErr l x=0 then l ++ [x] else []
set_option maxHeartbeats 1600000 in
theorem items_Push_ok {l : List Item} {v : Value} {w : World} (x : Item) (hl : Its w v l) (hk : okS l=true) (hx : x.ok=true) (h6 : l.length≠600) :
  Calls Tryz.prog 134 #[v,x.val] w (RetLN 70 w (l ++ [x]) 0):=by
 have hE0:=(Ext.refl w).alloc (.cells x.row.toArray 70)
 have hC:=Lib.hid (items_Check (hl.ext hE0))
 have hI:=Lib.hid (items_isItem x)
 have hW:=Lib.hid hl
 have h0 : Hid (chk l=0):=Hid.mk (by simp [chk,hk])
 have hX:=Lib.hid hx
 have hb : ((l.length : Int) == 600)=false:=by simp;omega
 have hs : l.length≤600:=by simp [okS] at hk;omega
 obtain ⟨a,cp,rfl,hlc,hcm,hnn⟩:=hl.form
 clear hl hk hx h6
 obtain ⟨p,t,c⟩:=x
 unfold Item.val Item.row at *
 go_enter Tryz.func134,Tryz.ntmps134
 go_wp2_with (first | (go_at_call 113;refine hC.out.mono ?_;rintro e w1 ⟨rfl,hE1⟩;rw [h0.out];have c0:=hE1.cell (p:=⟨w.heap.size,0,none⟩) (v := .int .u8 p) (by simp);have c1:=hE1.cell (p:=⟨w.heap.size,1,none⟩) (v := .int .i64 t) (by simp);have c2:=hE1.cell (p:=⟨w.heap.size,2,none⟩) (v := .int .i64 c) (by simp)) | (go_at_call 127;refine (hI.out _).mono ?_;rintro e w2 ⟨rfl,hE2⟩;rw [hX.out];have d0:=hE2.cell c0;have d1:=hE2.cell c1;have d2:=hE2.cell c2))
 have hE2':=(hE0.trans hE1).trans hE2
 clear c0 c1 c2
 have hE2s:=hE2'.size
 have hz0 : w.heap.size < w2.heap.size:=by have:=hE1.size;have:=hE2.size;simp at *;omega
 have hSk : ∀ w' w'' : World,((w'.cell? ⟨w.heap.size,0,none⟩=some (.int .u8 p)∧w'.cell? ⟨w.heap.size,1,none⟩=some (.int .i64 t)∧w'.cell? ⟨w.heap.size,2,none⟩=some (.int .i64 c))∧Ext w2 w')→Below w2.heap.size w' w''→((w''.cell? ⟨w.heap.size,0,none⟩=some (.int .u8 p)∧w''.cell? ⟨w.heap.size,1,none⟩=some (.int .i64 t)∧w''.cell? ⟨w.heap.size,2,none⟩=some (.int .i64 c))∧Ext w2 w''):=by
  rintro w' w'' ⟨⟨h0,h1,h2⟩,h3⟩ h
  have g:=fun o=>Below.cell h (p:=⟨w.heap.size,o,none⟩) hz0
  exact ⟨⟨(g 0).trans h0,(g 1).trans h1,(g 2).trans h2⟩,Below.trans h3 h⟩
 obtain ⟨i,z,hi,hz,hi3,hz3,hby⟩:=Item.infoE
 have hi':=Lib.hid hi;have hz':=Lib.hid hz;have hi3':=Lib.hid hi3;have hz3':=Lib.hid hz3;have hby':=Lib.hid hby
 clear hi hz hi3 hz3 hby
 go_region_held3 (fun w'=>(w'.cell? ⟨w.heap.size,0,none⟩=some (.int .u8 p)∧w'.cell? ⟨w.heap.size,1,none⟩=some (.int .i64 t)∧w'.cell? ⟨w.heap.size,2,none⟩=some (.int .i64 c))∧Ext w2 w') (first | exact ⟨⟨d0,d1,d2⟩,(Ext.refl _).drew⟩ | (refine hSk _ _ (by assumption) ?_;first | exact hK'.below | exact Below.alloc (Below.refl _ _) (Ext.size (And.right (by assumption))) _ | exact Below.mono (by assumption : Ext _ _) (Ext.size (And.right (by assumption))) | exact Below.mono (by assumption) (Ext.size (And.right (by assumption))))) (first | (go_at_call 91;refine (clone_Stack (l:=l) (Its.ext hW.out (hE2'.trans ?_)) (by omega)).mono ?_;(exact And.right (by assumption));rintro e w3 ⟨v3,rfl,hO,hE3⟩) | (rw [if_pos (by rfl)];refine wp_append_any (.tmp 19) (.tmp 21) 72 72 rfl rfl rfl (B:=w2.heap.size) (e:=70) (n:=l.length) (m:=1) (xs:=l.flatMap Item.row) (ys:=[.int .u8 p,.int .i64 t,.int .i64 c]) Tryz.underlying72 Tryz.underlying72 hi'.out hz'.out hi3'.out hz3'.out ?_ ?_ ?_ ?_ ?_ ?_ ?_;(first | exact (hO.mono (Nat.le_refl _)).ext ((Ext.refl _).alloc _) | exact hO.mono (by simp));(first | exact (Own.lit (B:=0) (e:=70) (k:=3) _ #[.int .u8 p,.int .i64 t,.int .i64 c] 1 (Nat.zero_le _) (by simp [maxLen]) rfl).sl | exact ((Own.lit (B:=0) (e:=70) (k:=3) _ #[.int .u8 p,.int .i64 t,.int .i64 c] 1 (Nat.zero_le _) (by simp [maxLen]) rfl).sl.ext (Ext.refl _).drew).ext hE3);(simp [Value.oneCell']);(simp [maxLen];omega);(rw [hby'.out];omega);(have:=hE3.size;simp at *;omega);intro v' w' hO' hK' _ _))
 all_goals
  go_wp2
  go_ret2
  refine ⟨_,rfl,?_,?_⟩
  ·rw [List.length_append,List.flatMap_append]
   exact hO'.mono hE2s
  ·have hX:=And.right (by assumption : (w'.cell? ⟨w.heap.size,0,none⟩=some (.int .u8 p)∧w'.cell? ⟨w.heap.size,1,none⟩=some (.int .i64 t)∧w'.cell? ⟨w.heap.size,2,none⟩=some (.int .i64 c))∧Ext w2 w')
   exact hE2'.trans hX
set_option maxHeartbeats 800000 in
theorem items_Push {l : List Item} {v : Value} {w : World} (x : Item) (hl : Its w v l) :
  Calls Tryz.prog 134 #[v,x.val] w (RetLN 70 w (pushOf l x) (pushErr l x)):=by
 by_cases hk : okS l=true
 ·by_cases hx : x.ok=true
  ·by_cases h6 : l.length=600
   ·have hE0:=(Ext.refl w).alloc (.cells x.row.toArray 70)
    have hC:=Lib.hid (items_Check (hl.ext hE0))
    have hI:=Lib.hid (items_isItem x)
    have h0 : Hid (chk l=0):=Hid.mk (by simp [chk,hk])
    have hX:=Lib.hid hx
    have he : Hid (pushErr l x=18):=Hid.mk (by simp [pushErr,hk,hx,h6])
    have hb : ((l.length : Int) == 600)=true:=by simp;omega
    unfold pushOf;rw [he.out]
    obtain ⟨a,cp,rfl,hlc,hcm,hnn⟩:=hl.form
    clear hl hk hx h6 he
    obtain ⟨p,t,c⟩:=x
    unfold Item.val Item.row at *
    go_enter Tryz.func134,Tryz.ntmps134
    go_wp2_with (first | (go_at_call 113;refine hC.out.mono ?_;rintro e w1 ⟨rfl,hE1⟩;rw [h0.out];have c0:=hE1.cell (p:=⟨w.heap.size,0,none⟩) (v := .int .u8 p) (by simp);have c1:=hE1.cell (p:=⟨w.heap.size,1,none⟩) (v := .int .i64 t) (by simp);have c2:=hE1.cell (p:=⟨w.heap.size,2,none⟩) (v := .int .i64 c) (by simp)) | (go_at_call 127;refine (hI.out _).mono ?_;rintro e w2 ⟨rfl,hE2⟩;rw [hX.out]))
    go_ret2
    exact ⟨_,rfl,Own.nil _ _ _ _,(hE0.trans hE1).trans hE2⟩
   ·unfold pushOf
    rw [show pushErr l x=0 by simp [pushErr,hk,hx,h6]]
    exact items_Push_ok x hl hk hx h6
  ·have hE0:=(Ext.refl w).alloc (.cells x.row.toArray 70)
   have hC:=Lib.hid (items_Check (hl.ext hE0))
   have hI:=Lib.hid (items_isItem x)
   have h0 : Hid (chk l=0):=Hid.mk (by simp [chk,hk])
   have hX : Hid (x.ok=false):=Hid.mk (by simpa using hx)
   have he : Hid (pushErr l x=8):=Hid.mk (by simp [pushErr,hk,hx])
   unfold pushOf;rw [he.out]
   obtain ⟨a,cp,rfl,hlc,hcm,hnn⟩:=hl.form
   clear hl hk hx he
   obtain ⟨p,t,c⟩:=x
   unfold Item.val Item.row at *
   go_enter Tryz.func134,Tryz.ntmps134
   go_wp2_with (first | (go_at_call 113;refine hC.out.mono ?_;rintro e w1 ⟨rfl,hE1⟩;rw [h0.out];have c0:=hE1.cell (p:=⟨w.heap.size,0,none⟩) (v := .int .u8 p) (by simp);have c1:=hE1.cell (p:=⟨w.heap.size,1,none⟩) (v := .int .i64 t) (by simp);have c2:=hE1.cell (p:=⟨w.heap.size,2,none⟩) (v := .int .i64 c) (by simp)) | (go_at_call 127;refine (hI.out _).mono ?_;rintro e w2 ⟨rfl,hE2⟩;rw [hX.out]))
   go_ret2
   exact ⟨_,rfl,Own.nil _ _ _ _,(hE0.trans hE1).trans hE2⟩
 ·have hE0:=(Ext.refl w).alloc (.cells x.row.toArray 70)
  have hC:=Lib.hid (items_Check (hl.ext hE0))
  have h8 : Hid (chk l=8):=Hid.mk (by simp [chk,hk])
  have he : Hid (pushErr l x=8):=Hid.mk (by simp [pushErr,hk])
  unfold pushOf;rw [he.out]
  obtain ⟨a,cp,rfl,hlc,hcm,hnn⟩:=hl.form
  clear hl hk he
  obtain ⟨p,t,c⟩:=x
  unfold Item.val Item.row at *
  go_enter Tryz.func134,Tryz.ntmps134
  go_wp2_with (go_at_call 113;refine hC.out.mono ?_;rintro e w1 ⟨rfl,hE1⟩;rw [h8.out])
  go_ret2
  exact ⟨_,rfl,Own.nil _ _ _ _,hE0.trans hE1⟩
end Go.Proofs.YtnplphcnagooeaaGreatDoor

/- Contracts: layer 30, the program's and the reference's. -/
namespace Go.Proofs.YtnplphcnagooeaaGreatDoor
set_option maxRecDepth 100000
open Go.RowKit
def u8B (k : Int) : Prop:=0≤k∧k≤255
def Perms (w : World) : Prop:=w.cell? ⟨0,0,none⟩=some (.int .u8 0)∧w.cell? ⟨0,1,none⟩=some (.int .u8 4)∧w.cell? ⟨0,2,none⟩=some (.int .u8 1)∧w.cell? ⟨0,3,none⟩=some (.int .u8 2)∧w.cell? ⟨0,4,none⟩=some (.int .u8 3)
theorem Perms.ext {w w' : World} (h : Perms w) (hE : Ext w w') : Perms w':=⟨hE.cell h.1,hE.cell h.2.1,hE.cell h.2.2.1,hE.cell h.2.2.2.1,hE.cell h.2.2.2.2⟩
theorem Perms.at {w : World} (h : Perms w) {k : Int} (hk : kindOk k=true) : w.cell? ⟨0,k.toNat,none⟩=some (.int .u8 (permOf k)):=by
 unfold kindOk at hk
 simp only [Bool.and_eq_true,decide_eq_true_eq] at hk
 obtain rfl | rfl | rfl | rfl : k=1∨k=2∨k=3∨k=4:=by omega
 ·exact h.2.1
 ·exact h.2.2.1
 ·exact h.2.2.2.1
 ·exact h.2.2.2.2
theorem kind_yes {k : Int} (h : kindOk k=true) : k=1∨k=2∨k=3∨k=4:=by
 unfold kindOk at h
 simp only [Bool.and_eq_true,decide_eq_true_eq] at h
 omega
theorem kind_no {k : Int} (h : kindOk k=false) (hk : u8B k) : k=0∨5≤k:=by
 unfold kindOk at h
 obtain ⟨h1,h2⟩:=hk
 rcases Bool.and_eq_false_iff.1 h with h | h <;> simp only [decide_eq_false_iff_not] at h <;> omega
theorem kindErr_yes {k : Int} (h : kindOk k=true) : kindErr k=0:=by simp [kindErr,h]
theorem kindErr_no {k : Int} (h : kindOk k=false) : kindErr k=2:=by simp [kindErr,h]
set_option maxHeartbeats 400000 in
theorem grant_Check {k : Int} (w : World) (hk : u8B k) : Calls Tryz.prog 48 #[.int .u8 k] w fun e w'=>e = .returned (.int .i64 (kindErr k))∧w=w':=by
 cases h : kindOk k
 ·have hr:=Lib.hid (kindErr_no h)
  rcases kind_no h hk with rfl | h5
  ·clear h hk
   go_enter Tryz.func48,Tryz.ntmps48
   go_wp2
   go_ret
   exact ⟨by rw [hr.out] <;> rfl,rfl⟩
  ·have q1 : (k == 0)=false:=beq_eq_false_iff_ne.2 (by omega)
   have q2 : decide (5≤k)=true:=decide_eq_true h5
   clear h hk
   go_enter Tryz.func48,Tryz.ntmps48
   go_wp2
   go_ret
   exact ⟨by rw [hr.out] <;> rfl,rfl⟩
 ·have hr:=Lib.hid (kindErr_yes h)
  rcases kind_yes h with rfl | rfl | rfl | rfl
  all_goals
   clear h hk
   go_enter Tryz.func48,Tryz.ntmps48
   go_wp2
   go_ret
   exact ⟨by rw [hr.out] <;> rfl,rfl⟩
set_option maxHeartbeats 400000 in
theorem grant_Writes {k : Int} (w : World) (hk : u8B k) : Calls Tryz.prog 133 #[.int .u8 k] w fun e w'=>e = .returned (.tuple #[.bool (writesOf k),.int .i64 (kindErr k)])∧Ext w w':=by
 cases h1 : k == 2 <;> cases h2 : k == 4
 all_goals
  have hr : Hid (writesOf k=(k == 2 || k == 4)):=Hid.mk rfl
  go_enter Tryz.func133,Tryz.ntmps133
  go_wp2_with fail
  first
   | (refine (grant_Check _ hk).mono ?_;rintro e w1 ⟨rfl,rfl⟩;go_wp2;go_ret2;exact ⟨by rw [hr.out,h1,h2];rfl,Ext.refl _⟩)
   | (go_quiet ((go_at_call 48;exact Calls.quiet_of_same ((grant_Check _ hk).mono fun _ _ h=>⟨h.1,h.2.symm⟩)));go_wp2;go_ret2;exact ⟨by rw [hr.out,h1,h2];rfl,(Ext.refl _).drewN _⟩)
end Go.Proofs.YtnplphcnagooeaaGreatDoor
