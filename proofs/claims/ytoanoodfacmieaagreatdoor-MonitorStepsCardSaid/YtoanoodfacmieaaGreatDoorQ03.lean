/- Several texts in one: ItemsF, AccA, AccE, Foot, GraA, AccB, AccC, AccD, ItemsP, GraB, GraC, GraD. -/
import Derived.Test.YtoanoodfacmieaaGreatDoorQ02
import Derived.Test.YtoanoodfacmieaaGreatDoorQ01
import Derived.LoopIn
import Derived.Deep.RegionHeld3
/- Contracts: Above and Below, the program's and the reference's. -/
namespace Go.Proofs.YtoanoodfacmieaaGreatDoor
set_option maxRecDepth 100000
open Go.RowKit
def atErr (l : List Item) (at' : Int) : Int:=if okS l then (if 0≤at'∧at' < l.length then 0 else 2) else 8
def aboveOf (l : List Item) (at' : Int) : List Item:=if atErr l at'=0 then l.drop (at'.toNat+1) else []
def belowOf (l : List Item) (at' : Int) : List Item:=if atErr l at'=0 then l.take (at'.toNat+1) else []
theorem slice_from_Stack (a : Option Addr) (l : List Item) (cap : Nat) (x : Int) (k : Nat) (hx : x=k) (hk : k≤l.length) :
  ∃ sv,(∀ w,(Instr.slice 104 (.slice a l.length cap) (some (.int .i64 x)) none none).run Tryz.prog w = .ok (.slice sv (l.length - k) (cap - k)) w) ∧ ∀ w,Its w (.slice a l.length cap) l→Its w (.slice sv (l.length - k) (cap - k)) (l.drop k):=by
 obtain ⟨i,z,hi,hz,hi3,hz3,hby⟩:=Item.infoE
 refine ⟨_,fun w=>run_slice_from Tryz.underlying104 hi a l.length cap x k hx hk w,fun w h => ?_⟩
 rw [hi3]
 exact h.drop k hk
theorem slice_upto_Stack (a : Option Addr) (l : List Item) (cap : Nat) (x : Int) (k : Nat) (hx : x=k) (hk : k≤cap) :
  ∀ w,(Instr.slice 104 (.slice a l.length cap) none (some (.int .i64 x)) none).run Tryz.prog w = .ok (.slice a k cap) w:=by
 obtain ⟨i,z,hi,hz,hi3,hz3,hby⟩:=Item.infoE
 exact fun w=>run_slice_upto Tryz.underlying104 hi a l.length cap x k hx hk w
def RetLLN (e : TypeId) (w : World) (l m : List Item) (n : Int) (en : Ending) (w' : World) : Prop := ∃ v u,en = .returned (.tuple #[v,u,.int .i64 n])∧Own w' w.heap.size e 3 v l.length (l.flatMap Item.row)∧Own w' w.heap.size e 3 u m.length (m.flatMap Item.row)∧Ext w w'
set_option maxHeartbeats 800000 in
theorem items_cut {l : List Item} {v : Value} {w : World} (at' : Int) (hl : Its w v l) :
  Calls Tryz.prog 102 #[v,.int .i64 at'] w (RetLLN 89 w (belowOf l at') (aboveOf l at') (atErr l at')):=by
 have hC:=Lib.hid (items_Check hl)
 have hW:=Lib.hid hl
 obtain ⟨a,cp,rfl,hlc,hcm,hnn⟩:=hl.form
 clear hl
 unfold maxLen at hcm
 cases hk : okS l
 ·have h8 : Hid (chk l=8):=Hid.mk (by simp [chk,hk])
  have e1 : Hid (atErr l at'=8):=Hid.mk (by simp [atErr,hk])
  go_enter Tryz.func102,Tryz.ntmps102
  go_wp2_with (go_at_call 75;refine hC.out.mono ?_;rintro e w' ⟨rfl,hE⟩;rw [h8.out])
  go_ret3
  unfold aboveOf belowOf
  rw [e1.out]
  exact ⟨_,_,rfl,Own.nil _ _ _ _,Own.nil _ _ _ _,hE⟩
 ·have h0 : Hid (chk l=0):=Hid.mk (by simp [chk,hk])
  have hl6 : l.length≤600:=by simp [okS] at hk;omega
  by_cases hr : 0≤at'∧at' < l.length
  ·obtain ⟨k,rfl⟩:=Int.eq_ofNat_of_zero_le hr.1
   have hkl : k < l.length:=by omega
   have e1 : Hid (atErr l (k : Int)=0):=Hid.mk (by simp [atErr,hk,hkl])
   have d0 : decide ((k : Int) < 0)=false:=decide_eq_false (by omega)
   have d1 : decide ((l.length : Int)≤(k : Int))=false:=decide_eq_false (by omega)
   clear hr hk
   have hs1:=slice_upto_Stack a l cp ((k : Int)+1) (k+1) (by simp) (by omega)
   obtain ⟨sv,hs3,hs2⟩:=slice_from_Stack a l cp ((k : Int)+1) (k+1) (by simp) (by omega)
   have hs2:=Lib.hid hs2
   have hk1 : IntKind.i64.wrap ((k : Int)+1)=(k : Int)+1:=IntWalk.i64_in _ (by omega)
   go_enter Tryz.func102,Tryz.ntmps102
   go_wp2_with (go_at_call 75;refine hC.out.mono ?_;rintro e w1 ⟨rfl,hE⟩;rw [h0.out])
   go_region_held3 (fun w'=>Ext w1 w') (first | exact (Ext.refl _).drew | exact Ext.trans (by assumption) hE3 | exact Ext.trans (by assumption) hE2) (first | (go_at_call 55;refine (clone_Stack (l:=l.take (k+1)) (Its.ext ?_ (hE.trans (by assumption))) ?_).mono ?_;(exact hW.out.take (k+1) (by omega));(simp;omega);rintro e w2 ⟨v2,rfl,hO,hE2⟩) | (go_at_call 105;refine (clone_Items (l:=l.drop (k+1)) (Its.ext ?_ (hE.trans (by assumption))) ?_).mono ?_;(exact hs2.out _ hW.out);(simp;omega);rintro e w3 ⟨v3,rfl,hO',hE3⟩))
   go_wp2
   go_ret3
   unfold aboveOf belowOf
   rw [e1.out]
   exact ⟨_,_,rfl,(hO.ext hE3).mono hE.size,hO'.mono (hE.trans ((Ext.refl w1).drew.trans hE2)).size,hE.trans (by assumption)⟩
  ·have e1 : Hid (atErr l at'=2):=Hid.mk (by simp [atErr,hk,hr])
   have hr' : at' < 0∨(0≤at'∧(l.length : Int)≤at'):=by omega
   clear hr hk
   rcases hr' with hr' | ⟨hr1,hr2⟩
   all_goals
    go_enter Tryz.func102,Tryz.ntmps102
    go_wp2_with (go_at_call 75;refine hC.out.mono ?_;rintro e w1 ⟨rfl,hE⟩;rw [h0.out])
    go_ret3
    unfold aboveOf belowOf
    rw [e1.out]
    exact ⟨_,_,rfl,Own.nil _ _ _ _,Own.nil _ _ _ _,hE⟩
set_option maxHeartbeats 400000 in
theorem items_Above {l : List Item} {v : Value} {w : World} (at' : Int) (hl : Its w v l) :
  Calls Tryz.prog 94 #[v,.int .i64 at'] w (RetLN 89 w (aboveOf l at') (atErr l at')):=by
 have hC:=Lib.hid (items_cut at' hl)
 obtain ⟨a,cp,rfl,hlc,hcm,hnn⟩:=hl.form
 clear hl
 go_enter Tryz.func94,Tryz.ntmps94
 go_wp2_with (go_at_call 102;refine hC.out.mono ?_;rintro e w1 ⟨v1,v2,rfl,hO1,hO2,hE⟩)
 go_ret2
 exact ⟨_,rfl,hO2,hE⟩
set_option maxHeartbeats 400000 in
theorem items_Below {l : List Item} {v : Value} {w : World} (at' : Int) (hl : Its w v l) :
  Calls Tryz.prog 93 #[v,.int .i64 at'] w (RetLN 89 w (belowOf l at') (atErr l at')):=by
 have hC:=Lib.hid (items_cut at' hl)
 obtain ⟨a,cp,rfl,hlc,hcm,hnn⟩:=hl.form
 clear hl
 go_enter Tryz.func93,Tryz.ntmps93
 go_wp2_with (go_at_call 102;refine hC.out.mono ?_;rintro e w1 ⟨v1,v2,rfl,hO1,hO2,hE⟩)
 go_ret2
 exact ⟨_,rfl,hO1,hE⟩
end Go.Proofs.YtoanoodfacmieaaGreatDoor

/- Contracts: access.use, and the reference's Used. -/
namespace Go.Proofs.YtoanoodfacmieaaGreatDoor
set_option maxRecDepth 100000
open Go.RowKit
def actAt (m : List Item) (i : Nat) : List Item :=
 match m[i]? with
 | some x=>if x.p=2 then m.set i ⟨1,x.t,x.c⟩ else m
 | none=>m
def useLeft (l : List Item) (i : Nat) (write : Bool) : List Item:=if write then actAt (l.take (i+1)) i else l.take (i+1) ++ (l.drop (i+1)).filter (fun x=>x.p != 1)
def useGone (l : List Item) (i : Nat) (write : Bool) : List Item:=if write then l.drop (i+1) else (l.drop (i+1)).filter (fun x=>x.p == 1)
def usedL (l : List Item) (tag : Int) (write : Bool) : List Item:=match findAt l tag write with | some i=>useLeft l i write | none=>[]
def usedG (l : List Item) (tag : Int) (write : Bool) : List Item:=match findAt l tag write with | some i=>useGone l i write | none=>[]
def usedW (l : List Item) (tag : Int) (write : Bool) : Int:=match findAt l tag write with | some _=>0 | none=>1
def accL (l : List Item) (tag : Int) (write : Bool) : List Item:=if okS l then usedL l tag write else []
def accG (l : List Item) (tag : Int) (write : Bool) : List Item:=if okS l then usedG l tag write else []
def accW (l : List Item) (tag : Int) (write : Bool) : Int:=if okS l then usedW l tag write else 0
def RetU (w : World) (l m : List Item) (why n : Int) (en : Ending) (w' : World) : Prop := ∃ v u,en = .returned (.tuple #[v,u,.int .u8 why,.int .i64 n])∧Its w' v l∧Its w' u m∧Ext w w'
def RetU3 (w : World) (l m : List Item) (why : Int) (en : Ending) (w' : World) : Prop := ∃ v u,en = .returned (.tuple #[v,u,.int .u8 why])∧Its w' v l∧Its w' u m∧Ext w w'
def RetUO (w : World) (l m : List Item) (why n : Int) (en : Ending) (w' : World) : Prop := ∃ v u,en = .returned (.tuple #[v,u,.int .u8 why,.int .i64 n])∧Own w' w.heap.size 89 3 v l.length (l.flatMap Item.row)∧Own w' w.heap.size 89 3 u m.length (m.flatMap Item.row)∧(∀ g,v.ownBlock=some g→u.ownBlock≠some g)∧Ext w w'
def RetUO3 (w : World) (l m : List Item) (why : Int) (en : Ending) (w' : World) : Prop := ∃ v u,en = .returned (.tuple #[v,u,.int .u8 why])∧Own w' w.heap.size 89 3 v l.length (l.flatMap Item.row)∧Own w' w.heap.size 89 3 u m.length (m.flatMap Item.row)∧(∀ g,v.ownBlock=some g→u.ownBlock≠some g)∧Ext w w'
theorem RetUO.weak {w : World} {l m : List Item} {why n : Int} {en : Ending} {w' : World} (h : RetUO w l m why n en w') : RetU w l m why n en w':=by
 obtain ⟨v,u,h1,h2,h3,-,h5⟩:=h
 exact ⟨v,u,h1,h2.sl,h3.sl,h5⟩
theorem RetUO3.weak {w : World} {l m : List Item} {why : Int} {en : Ending} {w' : World} (h : RetUO3 w l m why en w') : RetU3 w l m why en w':=by
 obtain ⟨v,u,h1,h2,h3,-,h5⟩:=h
 exact ⟨v,u,h1,h2.sl,h3.sl,h5⟩
theorem RetUO.none {w w' : World} {why n : Int} (h : Ext w w') : RetUO w [] [] why n (.returned (.tuple #[.slice none 0 0,.slice none 0 0,.int .u8 why,.int .i64 n])) w':=⟨_,_,rfl,Own.nil _ _ _ _,Own.nil _ _ _ _,(fun g h=>by cases h),h⟩
theorem rows_setp (q : Int) : ∀ (l : List Item) (i : Nat) (x : Item),l[i]? = some x→(l.flatMap Item.row).set (i * 3) (.int .u8 q)=(l.set i ⟨q,x.t,x.c⟩).flatMap Item.row
 | [],i,x,h=>by simp at h
 | y :: l,0,x,h=>by
  simp only [List.getElem?_cons_zero,Option.some.injEq] at h
  subst h
  rfl
 | y :: l,i+1,x,h=>by
  have ih:=rows_setp q l i x (by simpa using h)
  rw [List.flatMap_cons,List.set_cons_succ,List.flatMap_cons,← ih,List.set_append,if_neg (by rw [Item.row_len];omega),Item.row_len,show (i+1) * 3 - 3=i * 3 by omega]
theorem take_get {l : List Item} {i : Nat} {x : Item} (hx : l[i]? = some x) : (l.take (i+1))[i]? = some x:=by rw [List.getElem?_take,if_pos (by omega),hx]
def UseInv (q : Item→Bool) (w0 w3 : World) (lo : Nat) (m n : List Item) (k : Nat) (lf gn : Value) (wr : World) : Prop :=
 (Own wr w0.heap.size 89 3 lf (m ++ (n.take k).filter (fun x => !q x)).length ((m ++ (n.take k).filter (fun x => !q x)).flatMap Item.row) ∧
  Own wr w0.heap.size 89 3 gn ((n.take k).filter q).length (((n.take k).filter q).flatMap Item.row)) ∧
 ((∀ g,lf.ownBlock=some g→g < lo∨w3.heap.size≤g)∧(∀ g,gn.ownBlock=some g→w3.heap.size≤g)∧(∀ g,lf.ownBlock=some g→gn.ownBlock≠some g)) ∧
 Ext w0 wr∧w3.heap.size≤wr.heap.size ∧ ∀ b,lo≤b→b < w3.heap.size→wr.heap[b]? = w3.heap[b]?
theorem UseInv.start {q : Item→Bool} {w0 w3 : World} {lo : Nat} {m n : List Item} {lf : Value} (hE : Ext w0 w3) (h : Own w3 w0.heap.size 89 3 lf m.length (m.flatMap Item.row)) (hlo : ∀ g,lf.ownBlock=some g→g < lo) :
  UseInv q w0 w3 lo m n 0 lf (.slice none 0 0) w3:=by
 refine ⟨⟨?_,?_⟩,⟨fun g hg => .inl (hlo g hg),fun g hg=>by simp [Value.ownBlock] at hg,fun g _=>by simp [Value.ownBlock]⟩,hE,Nat.le_refl _,fun b _ _=>rfl⟩
 ·simpa using h
 ·simpa using Own.nil w3 w0.heap.size 89 3
theorem UseInv.above {q : Item→Bool} {w0 w3 : World} {lo : Nat} {m n : List Item} {k : Nat} {lf gn av : Value} {wr : World} (h : UseInv q w0 w3 lo m n k lf gn wr) (hO : Own w3 lo 89 3 av n.length (n.flatMap Item.row)) : Its wr av n :=
 hO.sl.of_block fun g hg=>h.2.2.2.2 g (hO.lt hg).1 (hO.lt hg).2
theorem UseInv.left {q : Item→Bool} {w0 w3 : World} {lo : Nat} {m n : List Item} {k : Nat} {lf gn lf' : Value} {wr wx w' : World} {x : Item} (h : UseInv q w0 w3 lo m n k lf gn wr) (hx : n[k]? = some x) (hp : q x=false) (hE : Ext wr wx)
  (hO : Own w' w0.heap.size 89 3 lf' ((m ++ (n.take k).filter (fun x => !q x)).length+1) ((m ++ (n.take k).filter (fun x => !q x)).flatMap Item.row ++ x.row)) (hK : Keeps wx w' w0.heap.size lf)
  (hb : lf'.ownBlock=lf.ownBlock ∨ ∃ g,lf'.ownBlock=some g∧wx.heap.size≤g) : UseInv q w0 w3 lo m n (k+1) lf' gn w':=by
 obtain ⟨⟨h1,h2⟩,⟨h3,h4,h5⟩,h6,h7,h8⟩:=h
 have e1 : (n.take (k+1)).filter (fun x => !q x)=(n.take k).filter (fun x => !q x) ++ [x]:=by rw [List.take_add_one,hx,List.filter_append];simp [hp]
 have e2 : (n.take (k+1)).filter q=(n.take k).filter q:=by rw [List.take_add_one,hx,List.filter_append];simp [hp]
 have hs:=hE.size
 have hs':=hK.below.size
 refine ⟨⟨?_,?_⟩,⟨?_,h4,?_⟩,Below.trans (h6.trans hE) hK.below,by omega,fun b hb1 hb2 => ?_⟩
 ·rw [e1,← List.append_assoc,List.length_append,List.flatMap_append]
  simpa using hO
 ·rw [e2]
  exact (h2.ext hE).keeps hK (fun g hg e=>h5 g e hg)
 ·intro g hg
  rcases hb with hb | ⟨g',hb,hge⟩
  ·exact h3 g (hb ▸ hg)
  ·rw [hb] at hg;cases hg;right;omega
 ·intro g hg e
  rcases hb with hb | ⟨g',hb,hge⟩
  ·exact h5 g (hb ▸ hg) e
  ·rw [hb] at hg;cases hg
   have:=(h2.lt e).2
   omega
 ·rw [hK.block b (by omega) (fun e=>by rcases h3 b e with h | h <;> omega),hE.blk (by omega),h8 b hb1 hb2]
theorem UseInv.gone {q : Item→Bool} {w0 w3 : World} {lo : Nat} {m n : List Item} {k : Nat} {lf gn gn' : Value} {wr wx w' : World} {x : Item} (h : UseInv q w0 w3 lo m n k lf gn wr) (hx : n[k]? = some x) (hp : q x=true) (hE : Ext wr wx)
  (hO : Own w' w0.heap.size 89 3 gn' (((n.take k).filter q).length+1) (((n.take k).filter q).flatMap Item.row ++ x.row)) (hK : Keeps wx w' w0.heap.size gn)
  (hb : gn'.ownBlock=gn.ownBlock ∨ ∃ g,gn'.ownBlock=some g∧wx.heap.size≤g) : UseInv q w0 w3 lo m n (k+1) lf gn' w':=by
 obtain ⟨⟨h1,h2⟩,⟨h3,h4,h5⟩,h6,h7,h8⟩:=h
 have e1 : (n.take (k+1)).filter (fun x => !q x)=(n.take k).filter (fun x => !q x):=by rw [List.take_add_one,hx,List.filter_append];simp [hp]
 have e2 : (n.take (k+1)).filter q=(n.take k).filter q ++ [x]:=by rw [List.take_add_one,hx,List.filter_append];simp [hp]
 have hs:=hE.size
 have hs':=hK.below.size
 refine ⟨⟨?_,?_⟩,⟨h3,?_,?_⟩,Below.trans (h6.trans hE) hK.below,by omega,fun b hb1 hb2 => ?_⟩
 ·rw [e1]
  exact (h1.ext hE).keeps hK (fun g hg e=>h5 g hg e)
 ·rw [e2,List.length_append,List.flatMap_append]
  simpa using hO
 ·intro g hg
  rcases hb with hb | ⟨g',hb,hge⟩
  ·exact h4 g (hb ▸ hg)
  ·rw [hb] at hg;cases hg;omega
 ·intro g hg e
  rcases hb with hb | ⟨g',hb,hge⟩
  ·exact h5 g hg (hb ▸ e)
  ·rw [hb] at e;cases e
   have:=(h1.lt hg).2
   omega
 ·rw [hK.block b (by omega) (fun e=>by have:=h4 b e;omega),hE.blk (by omega),h8 b hb1 hb2]
end Go.Proofs.YtoanoodfacmieaaGreatDoor

/- Plain laws of layer 29: what an access leaves, no program in sight. -/
namespace Go.Proofs.YtoanoodfacmieaaGreatDoor
set_option maxRecDepth 100000
open Go.RowKit
theorem findAt_some {l : List Item} {tag : Int} {write : Bool} {i : Nat} {x : Item} (hx : l[i]? = some x) (hg : grants tag write x=true) (hn : ∀ (j : Nat) (y : Item),i < j→l[j]? = some y→grants tag write y=false) : findAt l tag write=some i:=by
 refine lastUpTo_some (List.getElem?_eq_some_iff.1 hx).1 (by simp [hx,hg]) fun j h1 h2 => ?_
 have hy : l[j]? = some l[j]:=by simp [h2]
 rw [hy]
 simpa using hn j _ h1 hy
theorem actAt_len (m : List Item) (i : Nat) : (actAt m i).length=m.length:=by
 unfold actAt;split
 ·split <;> simp
 ·rfl
theorem useLeft_len (l : List Item) (i : Nat) (write : Bool) : (useLeft l i write).length≤l.length:=by
 unfold useLeft
 cases write
 ·simp only [Bool.false_eq_true,if_false,List.length_append]
  have:=List.length_filter_le (fun x : Item=>x.p != 1) (l.drop (i+1))
  rw [List.length_drop] at this
  rw [List.length_take]
  omega
 ·simp only [if_true,actAt_len,List.length_take]
  omega
theorem useLeft_mem {l : List Item} {i : Nat} {write : Bool} {y : Item} (hy : y ∈ useLeft l i write) : y ∈ l ∨ ∃ x ∈ l,x.p=2∧y=⟨1,x.t,x.c⟩:=by
 unfold useLeft at hy
 cases write
 ·simp only [Bool.false_eq_true,if_false,List.mem_append,List.mem_filter] at hy
  rcases hy with h | ⟨h,-⟩
  ·exact .inl (List.mem_of_mem_take h)
  ·exact .inl (List.mem_of_mem_drop h)
 ·simp only [if_true] at hy
  unfold actAt at hy
  split at hy
  ·rename_i x hx
   split at hy
   ·rename_i hp
    rcases List.mem_or_eq_of_mem_set hy with h | h
    ·exact .inl (List.mem_of_mem_take h)
    ·exact .inr ⟨x,List.mem_of_mem_take (List.mem_of_getElem? hx),hp,h⟩
   ·exact .inl (List.mem_of_mem_take hy)
  ·exact .inl (List.mem_of_mem_take hy)
theorem useLeft_ok {l : List Item} {i : Nat} {write : Bool} (h : okS l=true) : okS (useLeft l i write)=true:=by
 unfold okS at *
 simp only [Bool.and_eq_true,decide_eq_true_eq,List.all_eq_true] at *
 refine ⟨Nat.le_trans (useLeft_len _ _ _) h.1,fun y hy => ?_⟩
 rcases useLeft_mem hy with h1 | ⟨x,h1,h2,rfl⟩
 ·exact h.2 y h1
 ·have:=h.2 x h1
  unfold Item.ok at *
  simp [h2] at *
  exact this
end Go.Proofs.YtoanoodfacmieaaGreatDoor

/- What is read from the blocks of an interval alone; no program in sight. -/
namespace Go.Proofs.YtoanoodfacmieaaGreatDoor
set_option maxRecDepth 100000
open Go.RowKit
def Foot (B T : Nat) (w : World) (R : World→Prop) : Prop := ∀ w'' : World,(∀ b,B≤b→b < T→w''.heap[b]? = w.heap[b]?)→R w''
section
variable {B B' T T' : Nat} {w w' : World} {R R' : World→Prop}
theorem Foot.read (h : Foot B T w R) : R w:=h w fun _ _ _=>rfl
theorem Foot.of_all (h : ∀ w,R w) : Foot B T w R:=fun w'' _=>h w''
theorem Foot.mono (h : Foot B T w R) (hB : B'≤B) (hT : T≤T') : Foot B' T' w R:=fun w'' hb=>h w'' fun b h1 h2=>hb b (Nat.le_trans hB h1) (Nat.lt_of_lt_of_le h2 hT)
theorem Foot.imp (h : Foot B T w R) (hr : ∀ w,R w→R' w) : Foot B T w R':=fun w'' hb=>hr _ (h w'' hb)
theorem Foot.keep (h : Foot B T w R) (hb : ∀ b,B≤b→b < T→w'.heap[b]? = w.heap[b]?) : Foot B T w' R:=fun w'' h2=>h w'' fun b h3 h4=>(h2 b h3 h4).trans (hb b h3 h4)
theorem Foot.ext (h : Foot B T w R) (hE : Ext w w') (hT : T≤w.heap.size) : Foot B T w' R:=h.keep fun _ _ h2=>hE.blk (Nat.lt_of_lt_of_le h2 hT)
theorem Foot.but {S : Nat→Prop} (h : Foot B T w R) (hE : ExtBut S w w') (hT : T≤w.heap.size) (hS : ∀ b,S b→b < B∨T≤b) : Foot B T w' R :=
 h.keep fun b h1 h2=>hE.block b (Nat.lt_of_lt_of_le h2 hT) fun hs=>by rcases hS b hs with h | h <;> omega
theorem Foot.set (h : Foot B T w R) {p : Addr} (hp : p.block < B∨T≤p.block) (u : Value) : Foot B T (w.setCell p u) R :=
 h.keep fun b h1 h2=>Below.heap_setCell _ _ _ _ (fun e=>by subst e;rcases hp with h | h <;> omega)
end
theorem Sl.foot {w : World} {B k n : Nat} {v : Value} {xs : List Value} (h : Sl w k v n xs) {T : Nat} (hg : ∀ g,v.ownBlock=some g→B≤g∧g < T) : Foot B T w (fun w=>Sl w k v n xs) :=
 fun _ hb=>h.of_block fun g e=>hb g (hg g e).1 (hg g e).2
theorem Own.foot {w : World} {B T : Nat} {e : TypeId} {k : Nat} {v : Value} {n : Nat} {xs : List Value} (h : Own w B e k v n xs) (hT : w.heap.size≤T) : Foot B T w (fun w=>Sl w k v n xs) :=
 h.sl.foot fun _ hg=>⟨(h.lt hg).1,Nat.lt_of_lt_of_le (h.lt hg).2 hT⟩
def CExt (w w' : World) : Prop := ∀ (p : Addr) (v : Value),w.cell? p=some v→w'.cell? p=some v
theorem Sl.cext {w w' : World} {k n : Nat} {v : Value} {xs : List Value} (h : Sl w k v n xs) (hc : CExt w w') : Sl w' k v n xs:=by
 obtain ⟨h1,a,cap,h2,h3,h4,h5,h6⟩:=h
 refine ⟨h1,a,cap,h2,h3,h4,h5,fun j u hj => ?_⟩
 obtain ⟨b,off,e,hcell⟩:=h6 j u hj
 exact ⟨b,off,e,hc _ _ hcell⟩
theorem Tb.cext {α : Type} {row : Value→α→List Value} {k : Nat} {R R' : Value→α→Prop} {w w' : World} {v : Value} {l : List α} (h : Tb row k R w v l) (hc : CExt w w') (hr : ∀ s a,R s a→R' s a) : Tb row k R' w' v l:=by
 obtain ⟨vs,h1,h2⟩:=h
 exact ⟨vs,h1.mono hr,h2.cext hc⟩
theorem Foot.of_but {B : Nat} {w' : World} {R : World→Prop} (hR : ∀ w1 w2,CExt w1 w2→R w1→R w2) (h : ∀ w'' : World,ExtBut (fun b=>b < B) w' w''→R w'') : Foot B w'.heap.size w' R:=by
 intro w'' hb
 have hx : CExt { w' with heap:=w''.heap ++ Array.replicate (w'.heap.size - w''.heap.size) (.cells #[] 0 (0,0)) } w'':=by
  intro p v hv
  by_cases hp : p.block < w''.heap.size
  ·rw [← hv]
   exact (World.cell?_of_block (by show (w''.heap ++ _)[p.block]? = _;rw [Array.getElem?_append_left hp])).symm
  ·exfalso
   have hn : (w''.heap ++ Array.replicate (w'.heap.size - w''.heap.size) (Obj.cells #[] 0 (0,0)))[p.block]? = none∨(w''.heap ++ Array.replicate (w'.heap.size - w''.heap.size) (Obj.cells #[] 0 (0,0)))[p.block]? = some (.cells #[] 0 (0,0)):=by
    rw [Array.getElem?_append_right (by omega),Array.getElem?_replicate]
    split
    ·exact .inr rfl
    ·exact .inl rfl
   rcases hn with hn | hn <;> simp [World.cell?,hn] at hv
 refine hR _ _ hx (h _ ⟨rfl,rfl,rfl,?_,fun b hlt hS => ?_⟩)
 ·show w'.heap.size≤(w''.heap ++ _).size
  rw [Array.size_append,Array.size_replicate];omega
 ·have e:=hb b (by omega) hlt
  have hlt2 : b < w''.heap.size:=by
   rcases Nat.lt_or_ge b w''.heap.size with h | h
   ·exact h
   ·rw [Array.getElem?_eq_none h,Array.getElem?_eq_getElem hlt] at e;cases e
  show (w''.heap ++ _)[b]? = _
  rw [Array.getElem?_append_left hlt2,e]
end Go.Proofs.YtoanoodfacmieaaGreatDoor

/- What the functions of layers 30 to 32 compute; no program in sight. -/
namespace Go.Proofs.YtoanoodfacmieaaGreatDoor
set_option maxRecDepth 100000
open Go.RowKit
def kindOk (k : Int) : Bool:=decide (1≤k) && decide (k≤4)
def kindErr (k : Int) : Int:=if kindOk k then 0 else 2
def permOf (k : Int) : Int:=if k=1 then 4 else if k=2 then 1 else if k=3 then 2 else 3
def writesOf (k : Int) : Bool:=k == 2 || k == 4
def argOk (x : Item) : Bool:=x.p == 0 && inB x.t && inB x.c
def retagR (l : List Item) (k old : Int) (x : Item) : List Item × List Item × Int × Int :=
 if okS l then
  if kindOk k && argOk x then
   if usedW l old (writesOf k)=0 then
    if (usedL l old (writesOf k)).length=600 then ([],[],0,18)
    else (usedL l old (writesOf k) ++ [⟨permOf k,x.t,x.c⟩],usedG l old (writesOf k),0,0)
   else ([],[],usedW l old (writesOf k),0)
  else ([],[],0,2)
 else ([],[],0,8)
theorem retagR_bad {l : List Item} {k old : Int} {x : Item} (h : okS l=false) : retagR l k old x=([],[],0,8):=by simp [retagR,h]
theorem retagR_arg {l : List Item} {k old : Int} {x : Item} (h : okS l=true) (ha : (kindOk k && argOk x)=false) : retagR l k old x=([],[],0,2):=by simp [retagR,h,ha]
theorem retagR_no {l : List Item} {k old : Int} {x : Item} (h : okS l=true) (ha : (kindOk k && argOk x)=true) (hw : usedW l old (writesOf k)≠0) : retagR l k old x=([],[],usedW l old (writesOf k),0):=by simp [retagR,h,ha,hw]
theorem retagR_full {l : List Item} {k old : Int} {x : Item} (h : okS l=true) (ha : (kindOk k && argOk x)=true) (hw : usedW l old (writesOf k)=0) (hf : (usedL l old (writesOf k)).length=600) : retagR l k old x=([],[],0,18):=by simp [retagR,h,ha,hw,hf]
theorem retagR_yes {l : List Item} {k old : Int} {x : Item} (h : okS l=true) (ha : (kindOk k && argOk x)=true) (hw : usedW l old (writesOf k)=0) (hf : ¬ (usedL l old (writesOf k)).length=600) :
  retagR l k old x=(usedL l old (writesOf k) ++ [⟨permOf k,x.t,x.c⟩],usedG l old (writesOf k),0,0):=by simp [retagR,h,ha,hw,hf]
theorem permOf_ok (k : Int) : 1≤permOf k∧permOf k≤4:=by
 unfold permOf
 split
 ·omega
 ·split
  ·omega
  ·split <;> omega
theorem usedW_cases (l : List Item) (tag : Int) (write : Bool) : usedW l tag write=0∧(findAt l tag write).isSome=true∨usedW l tag write=1∧(findAt l tag write)=none:=by
 unfold usedW
 cases findAt l tag write with
 | none=>exact .inr ⟨rfl,rfl⟩
 | some i=>exact .inl ⟨rfl,rfl⟩
theorem usedL_ok {l : List Item} {tag : Int} {write : Bool} (h : okS l=true) : okS (usedL l tag write)=true:=by
 unfold usedL
 cases findAt l tag write with
 | none=>rfl
 | some i=>exact useLeft_ok h
theorem newItem_ok {k : Int} {x : Item} (h : argOk x=true) : Item.ok ⟨permOf k,x.t,x.c⟩=true:=by
 unfold argOk at h
 simp only [Bool.and_eq_true] at h
 have hp:=permOf_ok k
 obtain hp | hp | hp | hp : permOf k=1∨permOf k=2∨permOf k=3∨permOf k=4:=by omega
 all_goals simp [Item.ok,hp,h.1.2,h.2]
def toldR' (l gone : List Item) (why e : Int) (run : List Int) : List Item × Int × Int:=if e=0∧why=0∧(firstR gone run).isSome=true then ([],2,0) else (l,why,e)
theorem toldR'_no {l gone : List Item} {why e : Int} {run : List Int} (h : ¬ (e=0∧why=0∧(firstR gone run).isSome=true)) : toldR' l gone why e run=(l,why,e):=by rw [toldR',if_neg h]
theorem toldR'_yes {l gone : List Item} {why e : Int} {run : List Int} (h : e=0∧why=0∧(firstR gone run).isSome=true) : toldR' l gone why e run=([],2,0):=by rw [toldR',if_pos h]
def useR (l : List Item) (tag : Int) (write : Bool) (run : List Int) : List Item × Int × Int:=if okR run then toldR' (accL l tag write) (accG l tag write) (accW l tag write) (chk l) run else ([],0,8)
def tagR (l : List Item) (k old : Int) (x : Item) (run : List Int) : List Item × Int × Int:=if okR run then toldR' (retagR l k old x).1 (retagR l k old x).2.1 (retagR l k old x).2.2.1 (retagR l k old x).2.2.2 run else ([],0,8)
def phaseOf (l : List Item) (tag : Int) : Int:=match findAt l tag true with
 | none=>0
 | some i=>if (l[i]?).any (fun x=>x.p == 2) then 1 else 2
def phaseR (l : List Item) (tag : Int) : Int × Int:=if okS l then (phaseOf l tag,0) else (0,8)
def readsR (run : List Int) : List Item→List Int→List Item × Int × Int
 | l,[]=>(l,0,0)
 | l,t :: ts=>if (useR l t false run).2.1=0 then ((readsR run (useR l t false run).1 ts).1,(readsR run (useR l t false run).1 ts).2.1+1,(readsR run (useR l t false run).1 ts).2.2) else ([],0,(useR l t false run).2.1)
end Go.Proofs.YtoanoodfacmieaaGreatDoor

/- Contracts: access.use. -/
namespace Go.Proofs.YtoanoodfacmieaaGreatDoor
set_option maxRecDepth 100000
open Go.RowKit
set_option maxHeartbeats 1600000 in
theorem access_useO {l : List Item} {v : Value} {w : World} (tag : Int) (write : Bool) (hl : Its w v l) :
  Calls Tryz.prog 86 #[v,.int .i64 tag,.bool write] w (RetUO w (accL l tag write) (accG l tag write) (accW l tag write) (chk l)):=by
 have hF0:=Ext.refl w
 have hL:=hl
 obtain ⟨a,cp,rfl,hlc,hcm,-⟩:=hl.form
 unfold maxLen at hcm
 clear hl
 cases hk : okS l
 ·have hi : Hid (findIx l tag write=0):=Hid.mk (by simp [findIx,hk])
  have he : Hid (findErr l tag write=8):=Hid.mk (by simp [findErr,hk])
  have e1 : Hid (accL l tag write=[]∧accG l tag write=[]∧accW l tag write=0∧chk l=8):=Hid.mk (by simp [accL,accG,accW,chk,hk])
  clear hk
  go_enter Tryz.func86,Tryz.ntmps86
  go_wp2_with fail
  refine (items_Find tag write hL).mono ?_
  rintro e w1 ⟨rfl,hE1⟩
  rw [hi.out,he.out]
  go_wp2
  refine bodyPost_ret (results_tmp4 rfl _ _ _) rfl ?_
  rw [e1.out.1,e1.out.2.1,e1.out.2.2.1,e1.out.2.2.2]
  exact RetUO.none hE1
 ·cases hf : findAt l tag write with
  | none =>
   have hi : Hid (findIx l tag write=0):=Hid.mk (by simp [findIx,hk,hf])
   have he : Hid (findErr l tag write=6):=Hid.mk (by simp [findErr,hk,hf])
   have e1 : Hid (accL l tag write=[]∧accG l tag write=[]∧accW l tag write=1∧chk l=0):=Hid.mk (by simp [accL,accG,accW,usedL,usedG,usedW,chk,hk,hf])
   clear hk hf
   go_enter Tryz.func86,Tryz.ntmps86
   go_wp2_with fail
   refine (items_Find tag write hL).mono ?_
   rintro e w1 ⟨rfl,hE1⟩
   rw [hi.out,he.out]
   go_wp2
   refine bodyPost_ret (results_tmp4 rfl _ _ _) rfl ?_
   rw [e1.out.1,e1.out.2.1,e1.out.2.2.1,e1.out.2.2.2]
   exact RetUO.none hE1
  | some i =>
   obtain ⟨x,hx,-,-⟩:=findAt_is hf
   have hil : i < l.length:=(List.getElem?_eq_some_iff.1 hx).1
   have hi : Hid (findIx l tag write=(i : Int)):=Hid.mk (by simp [findIx,hk,hf])
   have he : Hid (findErr l tag write=0):=Hid.mk (by simp [findErr,hk,hf])
   have hae : Hid (atErr l (i : Int)=0):=Hid.mk (by simp [atErr,hk,hil])
   have hl6 : l.length≤600:=by simp [okS] at hk;omega
   have e1 : Hid (accL l tag write=useLeft l i write∧accG l tag write=useGone l i write∧accW l tag write=0∧chk l=0):=Hid.mk (by simp [accL,accG,accW,usedL,usedG,usedW,chk,hk,hf])
   obtain ⟨m,hm⟩ : ∃ m,l.take (i+1)=m:=⟨_,rfl⟩
   obtain ⟨n,hn⟩ : ∃ n,l.drop (i+1)=n:=⟨_,rfl⟩
   have hb : Hid (belowOf l (i : Int)=m):=Hid.mk (by unfold belowOf;rw [hae.out];simp [hm])
   have ha : Hid (aboveOf l (i : Int)=n):=Hid.mk (by unfold aboveOf;rw [hae.out];simp [hn])
   have him : i < m.length:=by rw [← hm];simp;omega
   have hm6 : m.length≤600:=by rw [← hm];simp;omega
   have hnl : n.length≤600:=by rw [← hn];simp;omega
   have hmx : Hid (m[i]? = some x):=Hid.mk (by rw [← hm];exact take_get hx)
   have hm:=Lib.hid hm;have hn:=Lib.hid hn
   clear hk hf hx
   obtain ⟨ty,zz,hty,hz,hi3,hz3,hby⟩:=Item.infoE
   have hty:=Lib.hid hty;have hz:=Lib.hid hz;have hi3:=Lib.hid hi3;have hz3:=Lib.hid hz3;have hby:=Lib.hid hby
   cases write
   ·have hlf : Hid (useLeft l i false=m ++ n.filter (fun x => !(x.p == 1))):=Hid.mk (by simp only [useLeft,hm.out,hn.out];rfl)
    have hgn : Hid (useGone l i false=n.filter (fun x=>x.p == 1)):=Hid.mk (by simp [useGone,hn.out])
    go_enter Tryz.func86,Tryz.ntmps86
    go_wp2_with fail
    refine (items_Find tag _ hL).mono ?_
    rintro e w1 ⟨rfl,hE1⟩
    rw [hi.out,he.out]
    replace hL:=hL.ext hE1
    go_wp2_with fail
    refine (items_Below (i : Int) hL).mono ?_
    rintro e w2 ⟨vl,rfl,hvl,hE2⟩
    rw [hb.out] at hvl
    rw [hae.out]
    replace hL:=hL.ext hE2
    go_wp2_with fail
    refine (items_Above (i : Int) hL).mono ?_
    rintro e w3 ⟨va,rfl,hva,hE3⟩
    rw [ha.out] at hva
    rw [hae.out]
    have hF2:=hE1.trans hE2
    have hF3:=hF2.trans hE3
    have hvl3:=hvl.ext hE3
    have hI0 : UseInv (fun x=>x.p == 1) w w3 w2.heap.size m n 0 vl (.slice none 0 0) w3:=UseInv.start hF3 (hvl3.mono hE1.size) (fun g hg=>(hvl.lt hg).2)
    obtain ⟨g1,c1,rfl,hc1,hc2,-⟩:=hvl3.form (by omega)
    obtain ⟨a2,cp2,rfl,hc3,hc4,-⟩:=hva.sl.slice_form
    unfold maxLen at hc2 hc4
    clear hvl
    go_wp2
    go_loopw [12,16,58] (fun lf gn i wr => ∃ k : Nat,k≤n.length∧i = .int .i64 k∧UseInv (fun x=>x.p == 1) w w3 w2.heap.size m n k lf gn wr) (fun _ _ i _=>n.length - (intOf i).toNat)
    case atStart=>exact ⟨0,Nat.zero_le _,rfl,hI0⟩
    case round =>
     obtain ⟨k,hk,rfl,hI⟩:=hrel
     by_cases hlt : k < n.length
     ·obtain ⟨y,hy⟩ : ∃ y,n[k]? = some y:=⟨n[k],by simp [hlt]⟩
      have hA:=hI.above hva
      obtain ⟨b,off,rfl,hb,d0,d1,d2⟩:=hA.cell hy
      have hY:=Lib.hid hy
      clear hy
      have hI':=Lib.hid hI
      have hA':=Lib.hid hA
      clear hI hA
      have hE : Ext wr ((wr.alloc (.cells #[.int .u8 y.p,.int .i64 y.t,.int .i64 y.c] 89)).alloc (.cells #[.int .u8 y.p,.int .i64 y.t,.int .i64 y.c] 89)):=((Ext.refl wr).alloc _).alloc _
      have hx : Sl ((wr.alloc (.cells #[.int .u8 y.p,.int .i64 y.t,.int .i64 y.c] 89)).alloc (.cells #[.int .u8 y.p,.int .i64 y.t,.int .i64 y.c] 89)) 3 (.slice (some ⟨wr.heap.size+1,0,none⟩) 1 1) 1 y.row:=by
       have:=(Own.lit (B:=0) (e:=89) (k:=3) (wr.alloc (.cells #[.int .u8 y.p,.int .i64 y.t,.int .i64 y.c] 89)) #[.int .u8 y.p,.int .i64 y.t,.int .i64 y.c] 1 (Nat.zero_le _) (by simp [maxLen]) rfl).sl
       rw [show (wr.alloc (.cells #[.int .u8 y.p,.int .i64 y.t,.int .i64 y.c] 89)).heap.size=wr.heap.size+1 by simp] at this
       exact this
      have hl1 : (m ++ (n.take k).filter (fun x => !(x.p == 1))).length≤1200:=by
       have:=List.length_filter_le (fun x : Item => !(x.p == 1)) (n.take k)
       rw [List.length_append];rw [List.length_take] at this;omega
      have hl2 : ((n.take k).filter (fun x=>x.p == 1)).length≤600:=by
       have:=List.length_filter_le (fun x : Item=>x.p == 1) (n.take k)
       rw [List.length_take] at this;omega
      have hEs:=Lib.hid (hI'.out.2.2.1.trans hE).size
      have hE:=Lib.hid hE;have hx:=Lib.hid hx;have hl1:=Lib.hid hl1;have hl2:=Lib.hid hl2
      cases hp : y.p == 1
      ·go_wp2_with (at_builtin;refine Hid.out ?_)
       refine Hid.mk ?_
       refine wpList_append_any rfl _ _ 104 104 rfl rfl rfl Tryz.underlying104 Tryz.underlying104 hty.out hz.out hi3.out hz3.out (hI'.out.1.1.ext hE.out) hx.out (by simp [Item.row,Value.oneCell']) (Nat.le_trans (Nat.add_le_add_right hl1.out 1) (by simp [maxLen])) (by rw [hby.out];exact Nat.le_trans (Nat.mul_le_mul_right 24 (Nat.add_le_add_right hl1.out 1)) (by decide)) hEs.out ?_
       intro v' w' hO' hK' hb' _
       have hN:=Lib.hid (hI'.out.left hY.out hp hE.out hO' hK' hb')
       clear hO' hK' hb'
       go_wp2
       go_roundw
       case rel=>exact ⟨k+1,by omega,by go_num,hN.out⟩
       case measure=>simp [intOf];omega
      ·go_wp2_with (at_builtin;refine Hid.out ?_)
       refine Hid.mk ?_
       refine wpList_append_any rfl _ _ 103 103 rfl rfl rfl Tryz.underlying103 Tryz.underlying103 hty.out hz.out hi3.out hz3.out (hI'.out.1.2.ext hE.out) hx.out (by simp [Item.row,Value.oneCell']) (Nat.le_trans (Nat.add_le_add_right hl2.out 1) (by simp [maxLen])) (by rw [hby.out];exact Nat.le_trans (Nat.mul_le_mul_right 24 (Nat.add_le_add_right hl2.out 1)) (by decide)) hEs.out ?_
       intro v' w' hO' hK' hb' _
       have hN:=Lib.hid (hI'.out.gone hY.out hp hE.out hO' hK' hb')
       clear hO' hK' hb'
       go_wp2
       go_roundw
       case rel=>exact ⟨k+1,by omega,by go_num,hN.out⟩
       case measure=>simp [intOf];omega
     ·have hkl : k=n.length:=by omega
      subst hkl
      obtain ⟨⟨h1,h2⟩,⟨-,-,h5⟩,hE,_⟩:=hI
      rw [List.take_length] at h1 h2
      have h1:=Lib.hid h1;have h2:=Lib.hid h2;have h5o:=Lib.hid h5;clear h5
      go_wp2
      refine bodyPost_ret (results_tmp4 rfl _ _ _) rfl ?_
      rw [e1.out.1,e1.out.2.1,e1.out.2.2.1,e1.out.2.2.2,hlf.out,hgn.out]
      exact ⟨_,_,rfl,h1.out,h2.out,h5o.out,hE⟩
   ·have hgn : Hid (useGone l i true=n):=Hid.mk (by simp [useGone,hn.out])
    cases hp : x.p == 2
    rotate_left
    ·have hlf : Hid (useLeft l i true=m.set i ⟨1,x.t,x.c⟩):=Hid.mk (by simp [useLeft,hm.out,actAt,hmx.out];intro e;exact absurd (by simpa using hp) e)
     go_enter Tryz.func86,Tryz.ntmps86
     go_wp2_with fail
     refine (items_Find tag _ hL).mono ?_
     rintro e w1 ⟨rfl,hE1⟩
     rw [hi.out,he.out]
     replace hL:=hL.ext hE1
     go_wp2_with fail
     refine (items_Below (i : Int) hL).mono ?_
     rintro e w2 ⟨vl,rfl,hvl,hE2⟩
     rw [hb.out] at hvl
     rw [hae.out]
     replace hL:=hL.ext hE2
     go_wp2_with fail
     refine (items_Above (i : Int) hL).mono ?_
     rintro e w3 ⟨va,rfl,hva,hE3⟩
     rw [ha.out] at hva
     rw [hae.out]
     have hF2:=hE1.trans hE2
     have hF3:=hF2.trans hE3
     have hvl3:=hvl.ext hE3
     obtain ⟨g1,c1,rfl,hc1,hc2,-⟩:=hvl3.form (by omega)
     obtain ⟨a2,cp2,rfl,hc3,hc4,-⟩:=hva.sl.slice_form
     obtain ⟨b,off,hb',hb,d0,-,-⟩:=Its.cell (l:=m) hvl3.sl hmx.out
     cases hb'
     rw [Nat.zero_add] at d0
     have hfr:=hvl3.frozen (i * 3)
     have hS:=Lib.hid (hvl3.set (i * 3) (.int .u8 1))
     have hK:=Lib.hid (hvl3.setKeeps (B':=w.heap.size) hE1.size (i * 3) (.int .u8 1))
     have hne : Hid (g1 < w2.heap.size):=Hid.mk (hvl.lt rfl).2
     clear hvl hvl3
     go_wp2
     refine bodyPost_ret (results_tmp4 rfl _ _ _) rfl ?_
     rw [e1.out.1,e1.out.2.1,e1.out.2.2.1,e1.out.2.2.2,hlf.out,hgn.out]
     refine ⟨_,_,rfl,?_,(hva.keeps hK.out (fun g hg e => ?_)).mono hF2.size,(fun g e1 e2 => ?_),Below.trans hF3 hK.out.below⟩
     ·have:=hS.out
      rw [rows_setp 1 m i x hmx.out] at this
      rw [List.length_set]
      exact this.mono hE1.size
     ·have:=(hva.lt hg).1
      have:=hne.out
      have e' : g1=g:=by simpa [Value.ownBlock] using e
      omega
     ·have:=(hva.lt e2).1
      have:=hne.out
      have e' : g1=g:=by simpa [Value.ownBlock] using e1
      omega
    ·have hlf : Hid (useLeft l i true=m):=Hid.mk (by simp [useLeft,hm.out,actAt,hmx.out];intro e;simp [e] at hp)
     go_enter Tryz.func86,Tryz.ntmps86
     go_wp2_with fail
     refine (items_Find tag _ hL).mono ?_
     rintro e w1 ⟨rfl,hE1⟩
     rw [hi.out,he.out]
     replace hL:=hL.ext hE1
     go_wp2_with fail
     refine (items_Below (i : Int) hL).mono ?_
     rintro e w2 ⟨vl,rfl,hvl,hE2⟩
     rw [hb.out] at hvl
     rw [hae.out]
     replace hL:=hL.ext hE2
     go_wp2_with fail
     refine (items_Above (i : Int) hL).mono ?_
     rintro e w3 ⟨va,rfl,hva,hE3⟩
     rw [ha.out] at hva
     rw [hae.out]
     have hF2:=hE1.trans hE2
     have hF3:=hF2.trans hE3
     have hvl3:=hvl.ext hE3
     have hvL : Its w3 vl m:=hvl3.sl
     obtain ⟨g1,c1,rfl,hc1,hc2,-⟩:=hvl3.form (by omega)
     obtain ⟨a2,cp2,rfl,hc3,hc4,-⟩:=hva.sl.slice_form
     obtain ⟨b,off,hb',hb,d0,-,-⟩:=Its.cell hvL hmx.out
     cases hb'
     rw [Nat.zero_add] at d0
     have hne : Hid (g1 < w2.heap.size):=Hid.mk (hvl.lt rfl).2
     have hvl3:=Lib.hid hvl3
     clear hvl
     go_wp2
     refine bodyPost_ret (results_tmp4 rfl _ _ _) rfl ?_
     rw [e1.out.1,e1.out.2.1,e1.out.2.2.1,e1.out.2.2.2,hlf.out,hgn.out]
     refine ⟨_,_,rfl,hvl3.out.mono hE1.size,hva.mono hF2.size,(fun g e1 e2 => ?_),hF3⟩
     have:=(hva.lt e2).1
     have:=hne.out
     have e' : g1=g:=by simpa [Value.ownBlock] using e1
     omega
end Go.Proofs.YtoanoodfacmieaaGreatDoor

/- Contracts: the reference's Used. (printed by gen/accc.py) -/
namespace Go.Proofs.YtoanoodfacmieaaGreatDoor
set_option maxRecDepth 100000
open Go.RowKit
end Go.Proofs.YtoanoodfacmieaaGreatDoor

/- Contracts: layer 29, the program's and the reference's, and the helpers of its statements. (printed by gen/accd.py) -/
namespace Go.Proofs.YtoanoodfacmieaaGreatDoor
set_option maxRecDepth 100000
open Go.RowKit
set_option maxHeartbeats 400000 in
theorem access_ReadO {l : List Item} {v : Value} {w : World} (tag : Int) (hl : Its w v l) :
  Calls Tryz.prog 80 #[v,.int .i64 tag] w (RetUO w (accL l tag false) (accG l tag false) (accW l tag false) (chk l)):=by
 have hC:=Lib.hid (access_useO tag false hl)
 obtain ⟨a,cp,rfl,-⟩:=hl.form
 clear hl
 go_enter Tryz.func80,Tryz.ntmps80
 go_wp2_with fail
 refine hC.out.mono ?_
 rintro e w1 ⟨v1,v2,rfl,h1,h2,h3,hE⟩
 have h3o:=Lib.hid h3;clear h3
 go_wp2
 refine bodyPost_ret (results_tmp4 rfl _ _ _) rfl ?_
 exact ⟨_,_,rfl,h1,h2,h3o.out,hE⟩
set_option maxHeartbeats 400000 in
theorem access_WriteO {l : List Item} {v : Value} {w : World} (tag : Int) (hl : Its w v l) :
  Calls Tryz.prog 78 #[v,.int .i64 tag] w (RetUO w (accL l tag true) (accG l tag true) (accW l tag true) (chk l)):=by
 have hC:=Lib.hid (access_useO tag true hl)
 obtain ⟨a,cp,rfl,-⟩:=hl.form
 clear hl
 go_enter Tryz.func78,Tryz.ntmps78
 go_wp2_with fail
 refine hC.out.mono ?_
 rintro e w1 ⟨v1,v2,rfl,h1,h2,h3,hE⟩
 have h3o:=Lib.hid h3;clear h3
 go_wp2
 refine bodyPost_ret (results_tmp4 rfl _ _ _) rfl ?_
 exact ⟨_,_,rfl,h1,h2,h3o.out,hE⟩
end Go.Proofs.YtoanoodfacmieaaGreatDoor

/- Contracts: Push, the program's and the reference's. (printed by gen/push.py) -/
namespace Go.Proofs.YtoanoodfacmieaaGreatDoor
set_option maxRecDepth 100000
open Go.RowKit
def pushErr (l : List Item) (x : Item) : Int:=if okS l then (if x.ok then (if l.length=600 then 18 else 0) else 8) else 8
def pushOf (l : List Item) (x : Item) : List Item:=if pushErr l x=0 then l ++ [x] else []
set_option maxHeartbeats 1600000 in
theorem items_Push_ok {l : List Item} {v : Value} {w : World} (x : Item) (hl : Its w v l) (hk : okS l=true) (hx : x.ok=true) (h6 : l.length≠600) :
  Calls Tryz.prog 89 #[v,x.val] w (RetLN 89 w (l ++ [x]) 0):=by
 have hE0:=(Ext.refl w).alloc (.cells x.row.toArray 89)
 have hC:=Lib.hid (items_Check (hl.ext hE0))
 have hI:=Lib.hid (items_isItem x)
 have hW:=Lib.hid hl
 have h0 : Hid (chk l=0):=Hid.mk (by simp [chk,hk])
 have hX:=Lib.hid hx
 have hb : ((l.length : Int) == 600)=false:=by simp;omega
 have hs : l.length≤600:=by simp [okS] at hk;omega
 obtain ⟨a,cp,rfl,hlc,hcm,hnn⟩:=hl.form
 clear hl hk hx h6
 obtain ⟨p,t,c⟩:=x
 unfold Item.val Item.row at *
 go_enter Tryz.func89,Tryz.ntmps89
 go_wp2_with (first | (go_at_call 75;refine hC.out.mono ?_;rintro e w1 ⟨rfl,hE1⟩;rw [h0.out];have c0:=hE1.cell (p:=⟨w.heap.size,0,none⟩) (v := .int .u8 p) (by simp);have c1:=hE1.cell (p:=⟨w.heap.size,1,none⟩) (v := .int .i64 t) (by simp);have c2:=hE1.cell (p:=⟨w.heap.size,2,none⟩) (v := .int .i64 c) (by simp)) | (go_at_call 85;refine (hI.out _).mono ?_;rintro e w2 ⟨rfl,hE2⟩;rw [hX.out];have d0:=hE2.cell c0;have d1:=hE2.cell c1;have d2:=hE2.cell c2))
 have hE2':=(hE0.trans hE1).trans hE2
 clear c0 c1 c2
 have hE2s:=hE2'.size
 have hz0 : w.heap.size < w2.heap.size:=by have:=hE1.size;have:=hE2.size;simp at *;omega
 have hSk : ∀ w' w'' : World,((w'.cell? ⟨w.heap.size,0,none⟩=some (.int .u8 p)∧w'.cell? ⟨w.heap.size,1,none⟩=some (.int .i64 t)∧w'.cell? ⟨w.heap.size,2,none⟩=some (.int .i64 c))∧Ext w2 w')→Below w2.heap.size w' w''→((w''.cell? ⟨w.heap.size,0,none⟩=some (.int .u8 p)∧w''.cell? ⟨w.heap.size,1,none⟩=some (.int .i64 t)∧w''.cell? ⟨w.heap.size,2,none⟩=some (.int .i64 c))∧Ext w2 w''):=by
  rintro w' w'' ⟨⟨h0,h1,h2⟩,h3⟩ h
  have g:=fun o=>Below.cell h (p:=⟨w.heap.size,o,none⟩) hz0
  exact ⟨⟨(g 0).trans h0,(g 1).trans h1,(g 2).trans h2⟩,Below.trans h3 h⟩
 obtain ⟨i,z,hi,hz,hi3,hz3,hby⟩:=Item.infoE
 have hi':=Lib.hid hi;have hz':=Lib.hid hz;have hi3':=Lib.hid hi3;have hz3':=Lib.hid hz3;have hby':=Lib.hid hby
 clear hi hz hi3 hz3 hby
 go_region_held3 (fun w'=>(w'.cell? ⟨w.heap.size,0,none⟩=some (.int .u8 p)∧w'.cell? ⟨w.heap.size,1,none⟩=some (.int .i64 t)∧w'.cell? ⟨w.heap.size,2,none⟩=some (.int .i64 c))∧Ext w2 w') (first | exact ⟨⟨d0,d1,d2⟩,(Ext.refl _).drew⟩ | (refine hSk _ _ (by assumption) ?_;first | exact hK'.below | exact Below.alloc (Below.refl _ _) (Ext.size (And.right (by assumption))) _ | exact Below.mono (by assumption : Ext _ _) (Ext.size (And.right (by assumption))) | exact Below.mono (by assumption) (Ext.size (And.right (by assumption))))) (first | (go_at_call 55;refine (clone_Stack (l:=l) (Its.ext hW.out (hE2'.trans ?_)) (by omega)).mono ?_;(exact And.right (by assumption));rintro e w3 ⟨v3,rfl,hO,hE3⟩) | (rw [if_pos (by rfl)];refine wp_append_any (.tmp 19) (.tmp 21) 104 104 rfl rfl rfl (B:=w2.heap.size) (e:=89) (n:=l.length) (m:=1) (xs:=l.flatMap Item.row) (ys:=[.int .u8 p,.int .i64 t,.int .i64 c]) Tryz.underlying104 Tryz.underlying104 hi'.out hz'.out hi3'.out hz3'.out ?_ ?_ ?_ ?_ ?_ ?_ ?_;(first | exact (hO.mono (Nat.le_refl _)).ext ((Ext.refl _).alloc _) | exact hO.mono (by simp));(first | exact (Own.lit (B:=0) (e:=89) (k:=3) _ #[.int .u8 p,.int .i64 t,.int .i64 c] 1 (Nat.zero_le _) (by simp [maxLen]) rfl).sl | exact ((Own.lit (B:=0) (e:=89) (k:=3) _ #[.int .u8 p,.int .i64 t,.int .i64 c] 1 (Nat.zero_le _) (by simp [maxLen]) rfl).sl.ext (Ext.refl _).drew).ext hE3);(simp [Value.oneCell']);(simp [maxLen];omega);(rw [hby'.out];omega);(have:=hE3.size;simp at *;omega);intro v' w' hO' hK' _ _))
 all_goals
  go_wp2
  go_ret2
  refine ⟨_,rfl,?_,?_⟩
  ·rw [List.length_append,List.flatMap_append]
   exact hO'.mono hE2s
  ·have hX:=And.right (by assumption : (w'.cell? ⟨w.heap.size,0,none⟩=some (.int .u8 p)∧w'.cell? ⟨w.heap.size,1,none⟩=some (.int .i64 t)∧w'.cell? ⟨w.heap.size,2,none⟩=some (.int .i64 c))∧Ext w2 w')
   exact hE2'.trans hX
set_option maxHeartbeats 800000 in
theorem items_Push {l : List Item} {v : Value} {w : World} (x : Item) (hl : Its w v l) :
  Calls Tryz.prog 89 #[v,x.val] w (RetLN 89 w (pushOf l x) (pushErr l x)):=by
 by_cases hk : okS l=true
 ·by_cases hx : x.ok=true
  ·by_cases h6 : l.length=600
   ·have hE0:=(Ext.refl w).alloc (.cells x.row.toArray 89)
    have hC:=Lib.hid (items_Check (hl.ext hE0))
    have hI:=Lib.hid (items_isItem x)
    have h0 : Hid (chk l=0):=Hid.mk (by simp [chk,hk])
    have hX:=Lib.hid hx
    have he : Hid (pushErr l x=18):=Hid.mk (by simp [pushErr,hk,hx,h6])
    have hb : ((l.length : Int) == 600)=true:=by simp;omega
    unfold pushOf;rw [he.out]
    obtain ⟨a,cp,rfl,hlc,hcm,hnn⟩:=hl.form
    clear hl hk hx h6 he
    obtain ⟨p,t,c⟩:=x
    unfold Item.val Item.row at *
    go_enter Tryz.func89,Tryz.ntmps89
    go_wp2_with (first | (go_at_call 75;refine hC.out.mono ?_;rintro e w1 ⟨rfl,hE1⟩;rw [h0.out];have c0:=hE1.cell (p:=⟨w.heap.size,0,none⟩) (v := .int .u8 p) (by simp);have c1:=hE1.cell (p:=⟨w.heap.size,1,none⟩) (v := .int .i64 t) (by simp);have c2:=hE1.cell (p:=⟨w.heap.size,2,none⟩) (v := .int .i64 c) (by simp)) | (go_at_call 85;refine (hI.out _).mono ?_;rintro e w2 ⟨rfl,hE2⟩;rw [hX.out]))
    go_ret2
    exact ⟨_,rfl,Own.nil _ _ _ _,(hE0.trans hE1).trans hE2⟩
   ·unfold pushOf
    rw [show pushErr l x=0 by simp [pushErr,hk,hx,h6]]
    exact items_Push_ok x hl hk hx h6
  ·have hE0:=(Ext.refl w).alloc (.cells x.row.toArray 89)
   have hC:=Lib.hid (items_Check (hl.ext hE0))
   have hI:=Lib.hid (items_isItem x)
   have h0 : Hid (chk l=0):=Hid.mk (by simp [chk,hk])
   have hX : Hid (x.ok=false):=Hid.mk (by simpa using hx)
   have he : Hid (pushErr l x=8):=Hid.mk (by simp [pushErr,hk,hx])
   unfold pushOf;rw [he.out]
   obtain ⟨a,cp,rfl,hlc,hcm,hnn⟩:=hl.form
   clear hl hk hx he
   obtain ⟨p,t,c⟩:=x
   unfold Item.val Item.row at *
   go_enter Tryz.func89,Tryz.ntmps89
   go_wp2_with (first | (go_at_call 75;refine hC.out.mono ?_;rintro e w1 ⟨rfl,hE1⟩;rw [h0.out];have c0:=hE1.cell (p:=⟨w.heap.size,0,none⟩) (v := .int .u8 p) (by simp);have c1:=hE1.cell (p:=⟨w.heap.size,1,none⟩) (v := .int .i64 t) (by simp);have c2:=hE1.cell (p:=⟨w.heap.size,2,none⟩) (v := .int .i64 c) (by simp)) | (go_at_call 85;refine (hI.out _).mono ?_;rintro e w2 ⟨rfl,hE2⟩;rw [hX.out]))
   go_ret2
   exact ⟨_,rfl,Own.nil _ _ _ _,(hE0.trans hE1).trans hE2⟩
 ·have hE0:=(Ext.refl w).alloc (.cells x.row.toArray 89)
  have hC:=Lib.hid (items_Check (hl.ext hE0))
  have h8 : Hid (chk l=8):=Hid.mk (by simp [chk,hk])
  have he : Hid (pushErr l x=8):=Hid.mk (by simp [pushErr,hk])
  unfold pushOf;rw [he.out]
  obtain ⟨a,cp,rfl,hlc,hcm,hnn⟩:=hl.form
  clear hl hk he
  obtain ⟨p,t,c⟩:=x
  unfold Item.val Item.row at *
  go_enter Tryz.func89,Tryz.ntmps89
  go_wp2_with (go_at_call 75;refine hC.out.mono ?_;rintro e w1 ⟨rfl,hE1⟩;rw [h8.out])
  go_ret2
  exact ⟨_,rfl,Own.nil _ _ _ _,hE0.trans hE1⟩
end Go.Proofs.YtoanoodfacmieaaGreatDoor

/- Contracts: layer 30, the program's and the reference's. -/
namespace Go.Proofs.YtoanoodfacmieaaGreatDoor
set_option maxRecDepth 100000
open Go.RowKit
def u8B (k : Int) : Prop:=0≤k∧k≤255
def Perms (w : World) : Prop:=w.cell? ⟨0,0,none⟩=some (.int .u8 0)∧w.cell? ⟨0,1,none⟩=some (.int .u8 4)∧w.cell? ⟨0,2,none⟩=some (.int .u8 1)∧w.cell? ⟨0,3,none⟩=some (.int .u8 2)∧w.cell? ⟨0,4,none⟩=some (.int .u8 3)
theorem Perms.ext {w w' : World} (h : Perms w) (hE : Ext w w') : Perms w':=⟨hE.cell h.1,hE.cell h.2.1,hE.cell h.2.2.1,hE.cell h.2.2.2.1,hE.cell h.2.2.2.2⟩
theorem Perms.at {w : World} (h : Perms w) {k : Int} (hk : kindOk k=true) : w.cell? ⟨0,k.toNat,none⟩=some (.int .u8 (permOf k)):=by
 unfold kindOk at hk
 simp only [Bool.and_eq_true,decide_eq_true_eq] at hk
 obtain rfl | rfl | rfl | rfl : k=1∨k=2∨k=3∨k=4:=by omega
 ·exact h.2.1
 ·exact h.2.2.1
 ·exact h.2.2.2.1
 ·exact h.2.2.2.2
theorem kind_yes {k : Int} (h : kindOk k=true) : k=1∨k=2∨k=3∨k=4:=by
 unfold kindOk at h
 simp only [Bool.and_eq_true,decide_eq_true_eq] at h
 omega
theorem kind_no {k : Int} (h : kindOk k=false) (hk : u8B k) : k=0∨5≤k:=by
 unfold kindOk at h
 obtain ⟨h1,h2⟩:=hk
 rcases Bool.and_eq_false_iff.1 h with h | h <;> simp only [decide_eq_false_iff_not] at h <;> omega
theorem kindErr_yes {k : Int} (h : kindOk k=true) : kindErr k=0:=by simp [kindErr,h]
theorem kindErr_no {k : Int} (h : kindOk k=false) : kindErr k=2:=by simp [kindErr,h]
set_option maxHeartbeats 400000 in
theorem grant_Check {k : Int} (w : World) (hk : u8B k) : Calls Tryz.prog 34 #[.int .u8 k] w fun e w'=>e = .returned (.int .i64 (kindErr k))∧w=w':=by
 cases h : kindOk k
 ·have hr:=Lib.hid (kindErr_no h)
  rcases kind_no h hk with rfl | h5
  ·clear h hk
   go_enter Tryz.func34,Tryz.ntmps34
   go_wp2
   go_ret
   exact ⟨by rw [hr.out] <;> rfl,rfl⟩
  ·have q1 : (k == 0)=false:=beq_eq_false_iff_ne.2 (by omega)
   have q2 : decide (5≤k)=true:=decide_eq_true h5
   clear h hk
   go_enter Tryz.func34,Tryz.ntmps34
   go_wp2
   go_ret
   exact ⟨by rw [hr.out] <;> rfl,rfl⟩
 ·have hr:=Lib.hid (kindErr_yes h)
  rcases kind_yes h with rfl | rfl | rfl | rfl
  all_goals
   clear h hk
   go_enter Tryz.func34,Tryz.ntmps34
   go_wp2
   go_ret
   exact ⟨by rw [hr.out] <;> rfl,rfl⟩
set_option maxHeartbeats 400000 in
theorem grant_Writes {k : Int} (w : World) (hk : u8B k) : Calls Tryz.prog 88 #[.int .u8 k] w fun e w'=>e = .returned (.tuple #[.bool (writesOf k),.int .i64 (kindErr k)])∧Ext w w':=by
 cases h1 : k == 2 <;> cases h2 : k == 4
 all_goals
  have hr : Hid (writesOf k=(k == 2 || k == 4)):=Hid.mk rfl
  go_enter Tryz.func88,Tryz.ntmps88
  go_wp2_with fail
  first
   | (refine (grant_Check _ hk).mono ?_;rintro e w1 ⟨rfl,rfl⟩;go_wp2;go_ret2;exact ⟨by rw [hr.out,h1,h2];rfl,Ext.refl _⟩)
   | (go_quiet ((go_at_call 34;exact Calls.quiet_of_same ((grant_Check _ hk).mono fun _ _ h=>⟨h.1,h.2.symm⟩)));go_wp2;go_ret2;exact ⟨by rw [hr.out,h1,h2];rfl,(Ext.refl _).drewN _⟩)
end Go.Proofs.YtoanoodfacmieaaGreatDoor

/- Contracts: grant.Perm, grant.Retag, the reference's Tagged and Retag (layer 30). -/
namespace Go.Proofs.YtoanoodfacmieaaGreatDoor
set_option maxRecDepth 100000
open Go.RowKit
theorem retUO_errs {w w' : World} {r : List Item × List Item × Int × Int} {why n : Int} (h : r=([],[],why,n)) (hE : Ext w w') : RetUO w r.1 r.2.1 r.2.2.1 r.2.2.2 (.returned (.tuple #[.slice none 0 0,.slice none 0 0,.int .u8 why,.int .i64 n])) w':=by
 rw [h]
 exact RetUO.none hE
set_option maxHeartbeats 1600000 in
theorem grant_RetagO {l : List Item} {k : Int} {v : Value} {w : World} (hp : Perms w) (hk : u8B k) (old : Int) (x : Item) (hl : Its w v l) :
  Calls Tryz.prog 81 #[v,.int .u8 k,.int .i64 old,x.val] w (RetUO w (retagR l k old x).1 (retagR l k old x).2.1 (retagR l k old x).2.2.1 (retagR l k old x).2.2.2):=by
 obtain ⟨a,cp,rfl,-⟩:=hl.form
 obtain ⟨xp,xt,xc⟩:=x
 unfold Item.val
 have bX:=Box.new w 89 #[.int .u8 xp,.int .i64 xt,.int .i64 xc]
 have hF : Ext w (w.alloc (.cells #[.int .u8 xp,.int .i64 xt,.int .i64 xc] 89)):=(Ext.refl _).alloc _
 have hL:=Lib.hid (hl.ext hF)
 have hP:=Lib.hid (hp.ext hF)
 clear hl hp
 cases hok : okS l
 ·have h8 : Hid (chk l=8):=Hid.mk (by simp [chk,hok])
  have hres:=Lib.hid (retagR_bad (k:=k) (old:=old) (x:=⟨xp,xt,xc⟩) hok)
  clear hok bX
  go_enter Tryz.func81,Tryz.ntmps81
  go_wp2_with fail
  refine (items_Check hL.out).mono ?_
  rintro e w1 ⟨rfl,hE1⟩
  rw [h8.out]
  go_wp2
  refine bodyPost_ret (results_tmp4 rfl _ _ _) rfl ?_
  exact retUO_errs hres.out (hF.trans hE1)
 ·have h0 : Hid (chk l=0):=Hid.mk (by simp [chk,hok])
  cases ha : kindOk k && argOk ⟨xp,xt,xc⟩
  ·have hres:=Lib.hid (retagR_arg (old:=old) hok ha)
   clear hok
   have hcase : (kindErr k=2)∨(kindErr k=0∧((xp != 0)=true∨((xp != 0)=false∧(decide (xt < 0)=true∨(decide (xt < 0)=false∧(decide (1000000 < xt)=true∨(decide (1000000 < xt)=false∧(decide (xc < 0)=true∨(decide (xc < 0)=false∧decide (1000000 < xc)=true))))))))):=by
    cases h1 : kindOk k
    ·exact .inl (kindErr_no h1)
    ·refine .inr ⟨kindErr_yes h1,?_⟩
     rw [h1,Bool.true_and] at ha
     unfold argOk inB at ha
     simp only [Bool.and_eq_false_iff,beq_eq_false_iff_ne,decide_eq_false_iff_not,decide_eq_true_eq,bne_iff_ne,bne_eq_false_iff_eq] at ha ⊢
     omega
   clear ha
   rcases hcase with q | ⟨q,q0 | ⟨q0,q1 | ⟨q1,q2 | ⟨q2,q3 | ⟨q3,q4⟩⟩⟩⟩⟩
   all_goals
    replace q:=Lib.hid q
    go_enter Tryz.func81,Tryz.ntmps81
    go_wp2_with fail
    refine (items_Check hL.out).mono ?_
    rintro e w1 ⟨rfl,hE1⟩
    rw [h0.out]
    replace bX:=bX.ext hE1
    go_wp2_with fail
    refine (grant_Writes _ hk).mono ?_
    rintro e w2 ⟨rfl,hE2⟩
    rw [q.out]
    replace bX:=bX.ext hE2
    have b0:=bX.cell 0;have b1:=bX.cell 1;have b2:=bX.cell 2
    go_wp2
    refine bodyPost_ret (results_tmp4 rfl _ _ _) rfl ?_
    exact retUO_errs hres.out ((hF.trans hE1).trans hE2)
  ·have hres0 : Hid (usedW l old (writesOf k)≠0→retagR l k old ⟨xp,xt,xc⟩=([],[],usedW l old (writesOf k),0)):=Hid.mk (retagR_no hok ha)
   have hres1 : Hid (usedW l old (writesOf k)=0→(usedL l old (writesOf k)).length=600→retagR l k old ⟨xp,xt,xc⟩=([],[],0,18)):=Hid.mk (retagR_full hok ha)
   have hres2 : Hid (usedW l old (writesOf k)=0 → ¬ (usedL l old (writesOf k)).length=600→retagR l k old ⟨xp,xt,xc⟩=(usedL l old (writesOf k) ++ [⟨permOf k,xt,xc⟩],usedG l old (writesOf k),0,0)):=Hid.mk (retagR_yes hok ha)
   rw [Bool.and_eq_true] at ha
   have hnew:=Lib.hid (newItem_ok (k:=k) ha.2)
   have hUok : Hid (∀ wb,okS (usedL l old wb)=true):=Hid.mk (fun wb=>usedL_ok hok)
   have q:=Lib.hid (kindErr_yes ha.1)
   have hKind:=Lib.hid ha.1
   have hacc : Hid (∀ wb,accL l old wb=usedL l old wb∧accG l old wb=usedG l old wb∧accW l old wb=usedW l old wb∧chk l=0):=Hid.mk (fun wb=>by simp [accL,accG,accW,chk,hok])
   have ha2:=ha.2
   unfold argOk inB at ha2
   simp only [Bool.and_eq_true,beq_iff_eq,decide_eq_true_eq] at ha2
   obtain ⟨⟨rfl,hx1,hx2⟩,hx3,hx4⟩:=ha2
   have q1 : decide (xt < 0)=false:=decide_eq_false (by omega)
   have q2 : decide (1000000 < xt)=false:=decide_eq_false (by omega)
   have q3 : decide (xc < 0)=false:=decide_eq_false (by omega)
   have q4 : decide (1000000 < xc)=false:=decide_eq_false (by omega)
   clear hok ha hx1 hx2 hx3 hx4
   obtain ⟨wb,hwb⟩ : ∃ wb,writesOf k=wb:=⟨_,rfl⟩
   rw [hwb] at hres0 hres1 hres2
   replace hwb:=Lib.hid hwb
   rcases usedW_cases l old wb with ⟨hu,-⟩ | ⟨hu,-⟩
   ·have hu':=Lib.hid hu
    by_cases hf : (usedL l old wb).length=600
    ·have hres:=Lib.hid (hres1.out hu hf)
     have hpe : Hid (pushErr (usedL l old wb) ⟨permOf k,xt,xc⟩=18):=Hid.mk (by simp [pushErr,hUok.out wb,hnew.out,hf])
     have hpo : Hid (pushOf (usedL l old wb) ⟨permOf k,xt,xc⟩=[]):=Hid.mk (by simp [pushOf,hpe.out])
     clear hu hf hres0 hres1 hres2
     cases wb
     ·
      go_enter Tryz.func81,Tryz.ntmps81
      go_wp2_with fail
      refine (items_Check hL.out).mono ?_
      rintro e w1 ⟨rfl,hE1⟩
      rw [h0.out]
      replace bX:=bX.ext hE1
      go_wp2_with fail
      refine (grant_Writes _ hk).mono ?_
      rintro e w2 ⟨rfl,hE2⟩
      rw [q.out,hwb.out]
      replace bX:=bX.ext hE2
      have b0:=bX.cell 0;have b1:=bX.cell 1;have b2:=bX.cell 2
      go_wp2_with fail
      refine (access_ReadO old ((hL.out.ext hE1).ext hE2)).mono ?_
      rintro e w3 ⟨v3,u3,rfl,hv3,hu3,hd3,hE3⟩
      obtain ⟨e1,e2,e3,e4⟩:=hacc.out false
      rw [e1] at hv3;rw [e2] at hu3;rw [e3,e4,hu'.out]
      clear e1 e2 e3 e4
      replace hd3:=Lib.hid hd3
      have hF3:=((hF.trans hE1).trans hE2).trans hE3
      have hs0 : w.heap.size < w3.heap.size:=Nat.lt_of_lt_of_le (by simp) (((hE1.trans hE2).trans hE3).size)
      replace bX:=bX.ext hE3
      have hPm:=(((hP.out.ext hE1).ext hE2).ext hE3)
      have hcell:=hPm.at hKind.out
      have hk5 : 0≤k∧k < 5:=by rcases kind_yes hKind.out with h | h | h | h <;> omega
      clear hPm b0 b1 b2
      have b0:=bX.cell 0;have b1:=bX.cell 1;have b2:=bX.cell 2;have hfr:=bX.frozen 0
      obtain ⟨a3,c3,rfl,-⟩:=(Own.sl hv3).slice_form
      obtain ⟨a4,c4,rfl,-⟩:=(Own.sl hu3).slice_form
      go_wp2_with fail
      have hw2 : w.heap.size < w2.heap.size:=Nat.lt_of_lt_of_le (by simp) ((hE1.trans hE2).size)
      have hS : ExtBut (· = w.heap.size) w3 (w3.setCell ⟨w.heap.size,0,none⟩ (.int .u8 (permOf k))):=ExtBut.setCell w3 ⟨w.heap.size,0,none⟩ _
      replace hF3 : Ext w (w3.setCell ⟨w.heap.size,0,none⟩ (.int .u8 (permOf k))):=hF3.setCell (Nat.le_refl _) _
      replace hv3:=ExtBut.own hv3 hS (fun g hg e=>by have:=(hv3.lt hg).1;omega)
      replace hu3:=ExtBut.own hu3 hS (fun g hg e=>by have:=(hu3.lt hg).1;omega)
      clear hS
      obtain ⟨w4,hw4⟩ : ∃ x,w3.setCell ⟨w.heap.size,0,none⟩ (.int .u8 (permOf k))=x:=⟨_,rfl⟩
      rw [hw4] at hF3 hv3 hu3 ⊢
      clear hw4
      refine (items_Push ⟨permOf k,xt,xc⟩ (Own.sl hv3)).mono ?_
      rintro e w5 ⟨v5,rfl,hv5,hE5⟩
      rw [hpe.out]
      rw [hpo.out] at hv5
      obtain ⟨a5,c5,rfl,-⟩:=(Own.sl hv5).slice_form
      go_wp2
      refine bodyPost_ret (results_tmp4 rfl _ _ _) rfl ?_
      exact retUO_errs hres.out (hF3.trans hE5)
     ·
      go_enter Tryz.func81,Tryz.ntmps81
      go_wp2_with fail
      refine (items_Check hL.out).mono ?_
      rintro e w1 ⟨rfl,hE1⟩
      rw [h0.out]
      replace bX:=bX.ext hE1
      go_wp2_with fail
      refine (grant_Writes _ hk).mono ?_
      rintro e w2 ⟨rfl,hE2⟩
      rw [q.out,hwb.out]
      replace bX:=bX.ext hE2
      have b0:=bX.cell 0;have b1:=bX.cell 1;have b2:=bX.cell 2
      go_wp2_with fail
      refine (access_WriteO old ((hL.out.ext hE1).ext hE2)).mono ?_
      rintro e w3 ⟨v3,u3,rfl,hv3,hu3,hd3,hE3⟩
      obtain ⟨e1,e2,e3,e4⟩:=hacc.out true
      rw [e1] at hv3;rw [e2] at hu3;rw [e3,e4,hu'.out]
      clear e1 e2 e3 e4
      replace hd3:=Lib.hid hd3
      have hF3:=((hF.trans hE1).trans hE2).trans hE3
      have hs0 : w.heap.size < w3.heap.size:=Nat.lt_of_lt_of_le (by simp) (((hE1.trans hE2).trans hE3).size)
      replace bX:=bX.ext hE3
      have hPm:=(((hP.out.ext hE1).ext hE2).ext hE3)
      have hcell:=hPm.at hKind.out
      have hk5 : 0≤k∧k < 5:=by rcases kind_yes hKind.out with h | h | h | h <;> omega
      clear hPm b0 b1 b2
      have b0:=bX.cell 0;have b1:=bX.cell 1;have b2:=bX.cell 2;have hfr:=bX.frozen 0
      obtain ⟨a3,c3,rfl,-⟩:=(Own.sl hv3).slice_form
      obtain ⟨a4,c4,rfl,-⟩:=(Own.sl hu3).slice_form
      go_wp2_with fail
      have hw2 : w.heap.size < w2.heap.size:=Nat.lt_of_lt_of_le (by simp) ((hE1.trans hE2).size)
      have hS : ExtBut (· = w.heap.size) w3 (w3.setCell ⟨w.heap.size,0,none⟩ (.int .u8 (permOf k))):=ExtBut.setCell w3 ⟨w.heap.size,0,none⟩ _
      replace hF3 : Ext w (w3.setCell ⟨w.heap.size,0,none⟩ (.int .u8 (permOf k))):=hF3.setCell (Nat.le_refl _) _
      replace hv3:=ExtBut.own hv3 hS (fun g hg e=>by have:=(hv3.lt hg).1;omega)
      replace hu3:=ExtBut.own hu3 hS (fun g hg e=>by have:=(hu3.lt hg).1;omega)
      clear hS
      obtain ⟨w4,hw4⟩ : ∃ x,w3.setCell ⟨w.heap.size,0,none⟩ (.int .u8 (permOf k))=x:=⟨_,rfl⟩
      rw [hw4] at hF3 hv3 hu3 ⊢
      clear hw4
      refine (items_Push ⟨permOf k,xt,xc⟩ (Own.sl hv3)).mono ?_
      rintro e w5 ⟨v5,rfl,hv5,hE5⟩
      rw [hpe.out]
      rw [hpo.out] at hv5
      obtain ⟨a5,c5,rfl,-⟩:=(Own.sl hv5).slice_form
      go_wp2
      refine bodyPost_ret (results_tmp4 rfl _ _ _) rfl ?_
      exact retUO_errs hres.out (hF3.trans hE5)
    ·obtain ⟨N,hN⟩ : ∃ N,usedL l old wb ++ [⟨permOf k,xt,xc⟩]=N:=⟨_,rfl⟩
     have hres : Hid (retagR l k old ⟨0,xt,xc⟩=(N,usedG l old wb,0,0)):=Hid.mk (by rw [← hN];exact hres2.out hu hf)
     have hpe : Hid (pushErr (usedL l old wb) ⟨permOf k,xt,xc⟩=0):=Hid.mk (by simp [pushErr,hUok.out wb,hnew.out,hf])
     have hpo : Hid (pushOf (usedL l old wb) ⟨permOf k,xt,xc⟩=N):=Hid.mk (by rw [← hN];simp [pushOf,hpe.out])
     clear hN hu hf hres0 hres1 hres2
     cases wb
     ·
      go_enter Tryz.func81,Tryz.ntmps81
      go_wp2_with fail
      refine (items_Check hL.out).mono ?_
      rintro e w1 ⟨rfl,hE1⟩
      rw [h0.out]
      replace bX:=bX.ext hE1
      go_wp2_with fail
      refine (grant_Writes _ hk).mono ?_
      rintro e w2 ⟨rfl,hE2⟩
      rw [q.out,hwb.out]
      replace bX:=bX.ext hE2
      have b0:=bX.cell 0;have b1:=bX.cell 1;have b2:=bX.cell 2
      go_wp2_with fail
      refine (access_ReadO old ((hL.out.ext hE1).ext hE2)).mono ?_
      rintro e w3 ⟨v3,u3,rfl,hv3,hu3,hd3,hE3⟩
      obtain ⟨e1,e2,e3,e4⟩:=hacc.out false
      rw [e1] at hv3;rw [e2] at hu3;rw [e3,e4,hu'.out]
      clear e1 e2 e3 e4
      replace hd3:=Lib.hid hd3
      have hF3:=((hF.trans hE1).trans hE2).trans hE3
      have hs0 : w.heap.size < w3.heap.size:=Nat.lt_of_lt_of_le (by simp) (((hE1.trans hE2).trans hE3).size)
      replace bX:=bX.ext hE3
      have hPm:=(((hP.out.ext hE1).ext hE2).ext hE3)
      have hcell:=hPm.at hKind.out
      have hk5 : 0≤k∧k < 5:=by rcases kind_yes hKind.out with h | h | h | h <;> omega
      clear hPm b0 b1 b2
      have b0:=bX.cell 0;have b1:=bX.cell 1;have b2:=bX.cell 2;have hfr:=bX.frozen 0
      obtain ⟨a3,c3,rfl,-⟩:=(Own.sl hv3).slice_form
      obtain ⟨a4,c4,rfl,-⟩:=(Own.sl hu3).slice_form
      go_wp2_with fail
      have hw2 : w.heap.size < w2.heap.size:=Nat.lt_of_lt_of_le (by simp) ((hE1.trans hE2).size)
      have hS : ExtBut (· = w.heap.size) w3 (w3.setCell ⟨w.heap.size,0,none⟩ (.int .u8 (permOf k))):=ExtBut.setCell w3 ⟨w.heap.size,0,none⟩ _
      replace hF3 : Ext w (w3.setCell ⟨w.heap.size,0,none⟩ (.int .u8 (permOf k))):=hF3.setCell (Nat.le_refl _) _
      replace hv3:=ExtBut.own hv3 hS (fun g hg e=>by have:=(hv3.lt hg).1;omega)
      replace hu3:=ExtBut.own hu3 hS (fun g hg e=>by have:=(hu3.lt hg).1;omega)
      clear hS
      obtain ⟨w4,hw4⟩ : ∃ x,w3.setCell ⟨w.heap.size,0,none⟩ (.int .u8 (permOf k))=x:=⟨_,rfl⟩
      rw [hw4] at hF3 hv3 hu3 ⊢
      clear hw4
      refine (items_Push ⟨permOf k,xt,xc⟩ (Own.sl hv3)).mono ?_
      rintro e w5 ⟨v5,rfl,hv5,hE5⟩
      rw [hpe.out]
      rw [hpo.out] at hv5
      obtain ⟨a5,c5,rfl,-⟩:=(Own.sl hv5).slice_form
      go_wp2
      refine bodyPost_ret (results_tmp4 rfl _ _ _) rfl ?_
      rw [hres.out]
      exact ⟨_,_,rfl,hv5.mono hF3.size,(hu3.ext hE5).mono (Nat.le_of_lt hw2),fun g hg e=>by have h1:=(hv5.lt hg).1;have h2:=(hu3.lt e).2;omega,hF3.trans hE5⟩
     ·
      go_enter Tryz.func81,Tryz.ntmps81
      go_wp2_with fail
      refine (items_Check hL.out).mono ?_
      rintro e w1 ⟨rfl,hE1⟩
      rw [h0.out]
      replace bX:=bX.ext hE1
      go_wp2_with fail
      refine (grant_Writes _ hk).mono ?_
      rintro e w2 ⟨rfl,hE2⟩
      rw [q.out,hwb.out]
      replace bX:=bX.ext hE2
      have b0:=bX.cell 0;have b1:=bX.cell 1;have b2:=bX.cell 2
      go_wp2_with fail
      refine (access_WriteO old ((hL.out.ext hE1).ext hE2)).mono ?_
      rintro e w3 ⟨v3,u3,rfl,hv3,hu3,hd3,hE3⟩
      obtain ⟨e1,e2,e3,e4⟩:=hacc.out true
      rw [e1] at hv3;rw [e2] at hu3;rw [e3,e4,hu'.out]
      clear e1 e2 e3 e4
      replace hd3:=Lib.hid hd3
      have hF3:=((hF.trans hE1).trans hE2).trans hE3
      have hs0 : w.heap.size < w3.heap.size:=Nat.lt_of_lt_of_le (by simp) (((hE1.trans hE2).trans hE3).size)
      replace bX:=bX.ext hE3
      have hPm:=(((hP.out.ext hE1).ext hE2).ext hE3)
      have hcell:=hPm.at hKind.out
      have hk5 : 0≤k∧k < 5:=by rcases kind_yes hKind.out with h | h | h | h <;> omega
      clear hPm b0 b1 b2
      have b0:=bX.cell 0;have b1:=bX.cell 1;have b2:=bX.cell 2;have hfr:=bX.frozen 0
      obtain ⟨a3,c3,rfl,-⟩:=(Own.sl hv3).slice_form
      obtain ⟨a4,c4,rfl,-⟩:=(Own.sl hu3).slice_form
      go_wp2_with fail
      have hw2 : w.heap.size < w2.heap.size:=Nat.lt_of_lt_of_le (by simp) ((hE1.trans hE2).size)
      have hS : ExtBut (· = w.heap.size) w3 (w3.setCell ⟨w.heap.size,0,none⟩ (.int .u8 (permOf k))):=ExtBut.setCell w3 ⟨w.heap.size,0,none⟩ _
      replace hF3 : Ext w (w3.setCell ⟨w.heap.size,0,none⟩ (.int .u8 (permOf k))):=hF3.setCell (Nat.le_refl _) _
      replace hv3:=ExtBut.own hv3 hS (fun g hg e=>by have:=(hv3.lt hg).1;omega)
      replace hu3:=ExtBut.own hu3 hS (fun g hg e=>by have:=(hu3.lt hg).1;omega)
      clear hS
      obtain ⟨w4,hw4⟩ : ∃ x,w3.setCell ⟨w.heap.size,0,none⟩ (.int .u8 (permOf k))=x:=⟨_,rfl⟩
      rw [hw4] at hF3 hv3 hu3 ⊢
      clear hw4
      refine (items_Push ⟨permOf k,xt,xc⟩ (Own.sl hv3)).mono ?_
      rintro e w5 ⟨v5,rfl,hv5,hE5⟩
      rw [hpe.out]
      rw [hpo.out] at hv5
      obtain ⟨a5,c5,rfl,-⟩:=(Own.sl hv5).slice_form
      go_wp2
      refine bodyPost_ret (results_tmp4 rfl _ _ _) rfl ?_
      rw [hres.out]
      exact ⟨_,_,rfl,hv5.mono hF3.size,(hu3.ext hE5).mono (Nat.le_of_lt hw2),fun g hg e=>by have h1:=(hv5.lt hg).1;have h2:=(hu3.lt e).2;omega,hF3.trans hE5⟩
   ·have hu':=Lib.hid hu
    have hres : Hid (retagR l k old ⟨0,xt,xc⟩=([],[],1,0)):=Hid.mk (by rw [hres0.out (by rw [hu];decide),hu])
    clear hu hres0 hres1 hres2
    cases wb
    ·
     go_enter Tryz.func81,Tryz.ntmps81
     go_wp2_with fail
     refine (items_Check hL.out).mono ?_
     rintro e w1 ⟨rfl,hE1⟩
     rw [h0.out]
     replace bX:=bX.ext hE1
     go_wp2_with fail
     refine (grant_Writes _ hk).mono ?_
     rintro e w2 ⟨rfl,hE2⟩
     rw [q.out,hwb.out]
     replace bX:=bX.ext hE2
     have b0:=bX.cell 0;have b1:=bX.cell 1;have b2:=bX.cell 2
     go_wp2_with fail
     refine (access_ReadO old ((hL.out.ext hE1).ext hE2)).mono ?_
     rintro e w3 ⟨v3,u3,rfl,hv3,hu3,hd3,hE3⟩
     obtain ⟨e1,e2,e3,e4⟩:=hacc.out false
     rw [e1] at hv3;rw [e2] at hu3;rw [e3,e4,hu'.out]
     clear e1 e2 e3 e4
     go_wp2
     refine bodyPost_ret (results_tmp4 rfl _ _ _) rfl ?_
     exact retUO_errs hres.out (((hF.trans hE1).trans hE2).trans hE3)
    ·
     go_enter Tryz.func81,Tryz.ntmps81
     go_wp2_with fail
     refine (items_Check hL.out).mono ?_
     rintro e w1 ⟨rfl,hE1⟩
     rw [h0.out]
     replace bX:=bX.ext hE1
     go_wp2_with fail
     refine (grant_Writes _ hk).mono ?_
     rintro e w2 ⟨rfl,hE2⟩
     rw [q.out,hwb.out]
     replace bX:=bX.ext hE2
     have b0:=bX.cell 0;have b1:=bX.cell 1;have b2:=bX.cell 2
     go_wp2_with fail
     refine (access_WriteO old ((hL.out.ext hE1).ext hE2)).mono ?_
     rintro e w3 ⟨v3,u3,rfl,hv3,hu3,hd3,hE3⟩
     obtain ⟨e1,e2,e3,e4⟩:=hacc.out true
     rw [e1] at hv3;rw [e2] at hu3;rw [e3,e4,hu'.out]
     clear e1 e2 e3 e4
     go_wp2
     refine bodyPost_ret (results_tmp4 rfl _ _ _) rfl ?_
     exact retUO_errs hres.out (((hF.trans hE1).trans hE2).trans hE3)
end Go.Proofs.YtoanoodfacmieaaGreatDoor

/- Contracts: the reference's Tagged and Retag (layer 30). -/
namespace Go.Proofs.YtoanoodfacmieaaGreatDoor
set_option maxRecDepth 100000
open Go.RowKit
end Go.Proofs.YtoanoodfacmieaaGreatDoor
