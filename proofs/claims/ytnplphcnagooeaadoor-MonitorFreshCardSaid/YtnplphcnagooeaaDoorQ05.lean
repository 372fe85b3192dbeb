/- Several texts in one: CelW6, CelW7, CelW8, MonA, MonB, StkB. -/
import Derived.Test.YtnplphcnagooeaaDoorQ04
import Derived.Deep.RegionLaw
import Derived.RegionTactic
import Derived.Test.YtnplphcnagooeaaDoorQ03
import Derived.Lib.AppendZeros
import Derived.LoopIn
import Derived.Deep.QuietTactic
import Derived.BigQuiet
import Derived.Deep.RegionHeld3
/- Contracts: clone of a memory. -/
namespace Go.Proofs.YtnplphcnagooeaaDoor
set_option maxRecDepth 100000
open Go.RowKit
def OwnC (w : World) (B : Nat) (s : Value) (a : Alloc) : Prop:=Own w B 28 5 s a.cells.length (a.cells.flatMap Cell.row)
theorem OwnC.read {w : World} {B : Nat} {s : Value} {a : Alloc} (h : OwnC w B s a) : Cls w s a.cells:=Own.sl h
theorem OwnC.keep {w w' : World} {S : Nat→Prop} {B : Nat} {s : Value} {a : Alloc} (h : OwnC w B s a) (hE : ExtBut S w w') (hS : ∀ g,s.ownBlock=some g → ¬ S g) : OwnC w' B s a:=ExtBut.own h hE hS
abbrev OM (w : World) (B : Nat) (v : Value) (vs : List Value) (l : List Alloc) : Prop:=OTb arow 109 3 OwnC w B v vs l
def RetMem (w : World) (l : List Alloc) (next : Int) (en : Ending) (w' : World) : Prop := ∃ v vs,en = .returned (.agg #[v,.int .i64 next])∧OM w' w.heap.size v vs l∧Ext w w'
theorem OM.read {w : World} {B : Nat} {v : Value} {vs : List Value} {l : List Alloc} (h : OM w B v vs l) : Als w v l:=⟨vs,h.inner.mono fun _ _ h=>OwnC.read h,h.outer.sl⟩
theorem OwnC.lt {w : World} {B : Nat} {s : Value} {a : Alloc} (h : OwnC w B s a) : ∀ g,s.ownBlock=some g→B≤g∧g < w.heap.size:=fun _ hg=>Own.lt h hg
theorem OwnC.mono {w : World} {B B' : Nat} {s : Value} {a : Alloc} (h : OwnC w B s a) (hB : B'≤B) : OwnC w B' s a:=Own.mono h hB
theorem OwnC.ext {w w' : World} {B : Nat} {s : Value} {a : Alloc} (h : OwnC w B s a) (hE : Ext w w') : OwnC w' B s a:=Own.ext h hE
theorem Cls.one' {w : World} {v : Value} {l : List Cell} (h : Cls w v l) : v.oneCell'=true:=by
 obtain ⟨a,cap,rfl,_⟩:=h.form
 rfl
theorem All2.oneCells {w : World} {vs : List Value} {l : List Alloc} (hin : All2 (fun s a=>Cls w s a.cells) vs l) : ∀ s ∈ vs,s.oneCell'=true:=fun s hs=>by
 obtain ⟨i,hi⟩:=List.mem_iff_getElem?.1 hs
 obtain ⟨x,_,hc⟩:=hin.get' hi
 exact hc.one'
section
variable {w w' wx : World} {B B' : Nat} {v v' s : Value} {vs : List Value} {l : List Alloc} {a : Alloc} {S : Nat→Prop}
theorem OM.inner_lt (h : OM w B v vs l) : ∀ s ∈ vs,∀ g,s.ownBlock=some g→B≤g∧g < w.heap.size:=OTb.inner_lt (RO:=OwnC) (fun h=>OwnC.lt h) h
theorem OM.but (h : OM w B v vs l) (hE : ExtBut S w w') (hv : ∀ g,v.ownBlock=some g → ¬ S g) (hs : ∀ s ∈ vs,∀ g,s.ownBlock=some g → ¬ S g) : OM w' B v vs l:=OTb.but (RO:=OwnC) (fun h=>OwnC.keep h) h hE hv hs
theorem OM.ext (h : OM w B v vs l) (hE : Ext w w') : OM w' B v vs l:=OTb.ext (RO:=OwnC) (fun h=>OwnC.keep h) h hE
theorem OM.mono (h : OM w B v vs l) (hB : B'≤B) : OM w B' v vs l:=OTb.mono (RO:=OwnC) (fun h=>OwnC.mono h) h hB
theorem OM.push (h : OM w B v vs l) (hE : Ext w wx) (hR : OwnC wx B s a) (hs : ∀ g,s.ownBlock=some g→w.heap.size≤g) (hO : Own w' B 109 3 v' (l.length+1) (trows arow vs l ++ arow s a)) (hK : Keeps wx w' B v)
  (hb : v'.ownBlock=v.ownBlock ∨ ∃ g,v'.ownBlock=some g∧wx.heap.size≤g) : OM w' B v' (vs ++ [s]) (l ++ [a]):=OTb.push (RO:=OwnC) (fun h=>OwnC.keep h) (fun h=>OwnC.lt h) h hE hR hs hO hK hb
end
theorem OM.cell {w : World} {B : Nat} {a : Option Addr} {n cap : Nat} {vs : List Value} {l : List Alloc} (h : OM w B (.slice a n cap) vs l) {i : Nat} {x : Alloc} (hx : l[i]? = some x) :
  ∃ g s,a=some ⟨g,0,none⟩∧B≤g∧g < w.heap.size∧vs[i]? = some s∧OwnC w B s x∧(w.cell? ⟨g,i * 3,none⟩=some (.int .i64 x.num)∧w.cell? ⟨g,i * 3+1,none⟩=some (.bool x.live)∧w.cell? ⟨g,i * 3+2,none⟩=some s)∧(∀ j,w.frozen? ⟨g,j,none⟩=false)∧(∀ b,s.ownBlock=some b→B≤b∧b < w.heap.size∧b≠g):=by
 have hi : i < l.length:=(List.getElem?_eq_some_iff.1 hx).1
 obtain ⟨s,hs,hc⟩:=h.inner.get hx
 obtain ⟨g,cp,e,hnc,hcm,hg1,hg2⟩:=h.outer.form (by omega)
 simp only [Value.slice.injEq] at e
 obtain ⟨rfl,rfl,rfl⟩:=e
 have t : ∀ j,j < 3→w.cell? ⟨g,i * 3+j,none⟩=(arow s x)[j]? := fun j hj=>(h.outer.cellAt (i * 3+j) (by omega)).trans (trows_get arow arow_len hs hx hj)
 exact ⟨g,s,rfl,hg1,hg2,hs,hc,⟨t 0 (by omega),t 1 (by omega),t 2 (by omega)⟩,fun j=>h.outer.frozen j,fun b e=>⟨(OwnC.lt hc b e).1,(OwnC.lt hc b e).2,fun e2=>h.far s (List.mem_of_getElem? hs) b e (by rw [e2];rfl)⟩⟩
def small (l : List Alloc) : Prop:=l.length≤1000000 ∧ ∀ a ∈ l,a.cells.length≤1000000
set_option maxHeartbeats 1600000 in
theorem allocs_clone {l : List Alloc} {next : Int} {s : Value} {w : World} (hl : Als w s l) (hs : small l) :
  Calls Tryd.prog 58 #[.agg #[s,.int .i64 next]] w (RetMem w l next):=by
 obtain ⟨vs0,hin,hout⟩:=hl
 have hE0:=((Ext.refl w).alloc (.cells #[s,.int .i64 next] 31)).alloc (.cells #[.slice none 0 0,.int .i64 0] 31)
 obtain ⟨a,cp,rfl,hlc,hcm,-⟩:=hout.slice_form
 unfold maxLen at hcm
 have h1 : ∀ u ∈ trows arow vs0 l,u.oneCell'=true:=arow_one vs0 l fun s hs=>by
  obtain ⟨i,hi⟩:=List.mem_iff_getElem?.1 hs
  obtain ⟨x,_,hc⟩:=hin.get' hi
  obtain ⟨a,cap,rfl,_⟩:=hc.form
  rfl
 have hC:=Lib.hid (clone_Allocs (hout.ext hE0) h1 hs.1)
 have bM:=Lib.hid ((Box.new w 31 #[.slice a l.length cp,.int .i64 next]).ext ((Ext.refl _).alloc (.cells #[.slice none 0 0,.int .i64 0] 31)))
 have bR:=Lib.hid (Box.new (w.alloc (.cells #[.slice a l.length cp,.int .i64 next] 31)) 31 #[.slice none 0 0,.int .i64 0])
 rw [World.size_alloc] at bR
 go_enter Tryd.func58,Tryd.ntmps58
 go_wp2_with fail
 refine hC.out.mono ?_
 rintro e w2 ⟨v,rfl,hO,hE2⟩
 replace bM:=bM.out.ext hE2
 replace bR:=bR.out.ext hE2
 have hE2':=hE0.trans hE2
 by_cases hz : l.length=0
 ·have hl0 : l=[]:=List.eq_nil_of_length_eq_zero hz
  subst hl0
  have hv0 : vs0=[]:=List.eq_nil_of_length_eq_zero (by simpa using hin.length)
  subst hv0
  have hg : ∀ g,v.ownBlock=some g→w.heap.size+2≤g:=fun g e=>by have:=(hO.lt e).1;simpa using this
  obtain ⟨a2,cp2,rfl,hlc2,hcm2,-⟩:=hO.sl.slice_form
  have c0 : w2.cell? ⟨w.heap.size,0,none⟩=some (.slice a 0 cp):=bM.cell 0
  have f0:=bM.frozen 0
  have c1 : w2.cell? ⟨w.heap.size,1,none⟩=some (.int .i64 next):=bM.cell 1
  have r0 : w2.cell? ⟨w.heap.size+1,0,none⟩=some (.slice none 0 0):=bR.cell 0
  have r1 : w2.cell? ⟨w.heap.size+1,1,none⟩=some (.int .i64 0):=bR.cell 1
  have rf0:=bR.frozen 0
  have rf1:=bR.frozen 1
  have hO2:=Lib.hid hO
  have hg2:=Lib.hid hg
  clear hO hg
  go_wp2
  go_loopw [11] (fun iv wr=>iv = .int .i64 0∧wr=w2.setCell ⟨w.heap.size,0,none⟩ (.slice a2 0 cp2)) (fun _ _=>0)
  case atStart=>exact ⟨rfl,rfl⟩
  case round =>
   obtain ⟨rfl,rfl⟩:=hrel
   go_wp2
   have hX:=((ExtBut.setCell w2 ⟨w.heap.size,0,none⟩ (.slice a2 0 cp2)).mono (S':=fun b=>b < w.heap.size+2∧w.heap.size≤b) (fun x _ h=>by simp at h;omega)).trans (((ExtBut.setCell (w2.setCell ⟨w.heap.size,0,none⟩ (.slice a2 0 cp2)) ⟨w.heap.size+1,0,none⟩ (.slice a2 0 cp2)).mono (S':=fun b=>b < w.heap.size+2∧w.heap.size≤b) (fun x _ h=>by simp at h;omega)).trans ((ExtBut.setCell _ ⟨w.heap.size+1,1,none⟩ (.int .i64 next)).mono (S':=fun b=>b < w.heap.size+2∧w.heap.size≤b) (fun x _ h=>by simp at h;omega)))
   refine bodyPost_ret (v := .agg #[.slice a2 0 cp2,.int .i64 next]) (by simp [results,Tryd.f58,go_sem,r0,r1]) rfl ⟨_,[],rfl,⟨?_,trivial,fun i j a b _ h=>by simp at h,fun s h=>by cases h⟩,ExtBut.ext hE2' hX (fun x h=>h.2)⟩
   exact ExtBut.own (hO2.out.mono (by simp;omega)) hX (fun g e h=>by have:=hg2.out g e;omega)
 ·obtain ⟨g,cp2,rfl,hlc2,hcm2,hg1,hg2⟩:=hO.form (by omega)
  unfold maxLen at hcm2
  simp only [World.size_alloc] at hg1
  have c0:=bM.cell 0
  have f0:=bM.frozen 0
  have hlen0 : vs0.length=l.length:=hin.length
  have hO1:=ExtBut.own (hO.mono (B':=w.heap.size) (by simp;omega)) (ExtBut.setCell w2 ⟨w.heap.size,0,none⟩ (.slice (some ⟨g,0,none⟩) l.length cp2)) (fun g' e h=>by simp [Value.ownBlock] at e;simp at h;omega)
  have hE1:=ExtBut.ext hE2' (ExtBut.setCell w2 ⟨w.heap.size,0,none⟩ (.slice (some ⟨g,0,none⟩) l.length cp2)) (fun x h=>by simp at h;omega)
  have bM1:=bM.set 0 (.slice (some ⟨g,0,none⟩) l.length cp2)
  have bR1:=bR.other (p:=⟨w.heap.size,0,none⟩) (by simp) (.slice (some ⟨g,0,none⟩) l.length cp2)
  have hHid:=Lib.hid (And.intro hlen0 (And.intro hO1 (And.intro hE1 (And.intro bM1 bR1))))
  clear hlen0 hO1 hE1 bM1 bR1 hO
  go_wp2
  obtain ⟨hlen0,hO1,hE1,bM1,bR1⟩:=hHid.out
  clear hHid
  obtain ⟨w1,hw1⟩ : ∃ w1,w2.setCell ⟨w.heap.size,0,none⟩ (.slice (some ⟨g,0,none⟩) l.length cp2)=w1:=⟨_,rfl⟩
  have hsz : w1.heap.size=w2.heap.size:=by rw [← hw1];simp
  rw [hw1] at hO1 hE1 bM1 bR1 ⊢
  clear hw1
  have hI0:=CInv.start (RO:=OwnC) hlen0 hO1 hE1
  have hgl:=(hO1.lt rfl).2
  have hH:=Lib.hid (And.intro hlen0 (And.intro hI0 (And.intro bM1 bR1)))
  clear hlen0 hO1 hI0 bM1 bR1 c0 f0 bM bR hsz
  go_loopw [11] (fun iv wr => ∃ k : Nat,k≤l.length∧iv = .int .i64 k∧CInv arow 109 3 OwnC w w1 wr g cp2 vs0 l k) (fun iv _=>l.length - (intOf iv).toNat)
  case atStart=>exact ⟨0,Nat.zero_le _,rfl,hH.out.2.1⟩
  case round =>
   obtain ⟨k,hk,rfl,hI⟩:=hrel
   have bM:=hH.out.2.2.1.but hI.keep (by intro h;omega)
   have bR:=hH.out.2.2.2.but hI.keep (by intro h;omega)
   have c0 : wr.cell? ⟨w.heap.size,0,none⟩=some (.slice (some ⟨g,0,none⟩) l.length cp2):=bM.cell 0
   by_cases hlt : k < l.length
   ·obtain ⟨x,hx⟩ : ∃ x,l[k]? = some x:=⟨l[k],by simp [hlt]⟩
    obtain ⟨sv,hsv⟩ : ∃ sv,vs0[k]? = some sv:=by have:=hH.out.1;exact ⟨vs0[k],by simp⟩
    obtain ⟨vs,hvl,hOw,hin1,hap,hold⟩:=hI.vs
    have hvk:=(hold k (Nat.le_refl _)).trans hsv
    have d2 : wr.cell? ⟨g,k * 3+2,none⟩=some sv:=(hOw.cellAt (k * 3+2) (by omega)).trans ((trows_get arow arow_len hvk hx (by omega : 2 < 3)).trans rfl)
    have fr:=hOw.frozen (k * 3+2)
    have hcl : Cls wr sv x.cells:=((All2.iff.1 hin).2 k sv x hsv hx).ext hI.ext
    have hi0 : (0 : Int)≤(k : Int):=by omega
    have hi1 : (k : Int) < (l.length : Int):=by omega
    have hCl:=Lib.hid (fun (w' : World) (h : Ext wr w')=>clone_Cells (hcl.ext h) (Cell.one x.cells) (hs.2 x (List.mem_of_getElem? hx)))
    have hOw':=Lib.hid hOw
    have hHH:=Lib.hid (And.intro hI (And.intro hx (And.intro hsv hin)))
    clear hvl hin1 hOw hap hold hvk hcl hI hx hsv hin hs hout h1
    go_wp2
    go_region_with (first | (go_at_call 60;refine (hCl.out _ ?_).mono ?_;(exact (Ext.refl _).drew);rintro e w4 ⟨sn,rfl,hOn,hEn⟩;obtain ⟨an,cn,rfl,-⟩:=hOn.sl.slice_form;have hO4:=hOw'.out.ext ((Ext.refl wr).drew.trans hEn);have c4:=hEn.cell (show wr.drew.cell? ⟨w.heap.size,0,none⟩=some (.slice (some ⟨g,0,none⟩) l.length cp2) by simpa using c0);have d4:=hEn.cell (show wr.drew.cell? ⟨g,k * 3+2,none⟩=some sv by simpa using d2);have f4:=hO4.frozen (k * 3+2)))
    all_goals
     have hEw : Ext wr w4:=(Ext.refl wr).drew.trans hEn
     have hge : w.heap.size≤wr.heap.size:=hHH.out.1.ext.size
     have hst:=Lib.hid (CInv.step (RO:=OwnC) (j:=2) arow_len OwnC.keep hHH.out.1 hHH.out.2.1 hHH.out.2.2.1 (by omega) rfl hEw (Own.mono hOn (by simpa using hge)) (fun b e=>by have:=hOn.lt e;simpa using this))
     clear hO4 hOn
     go_wp2
     go_roundw
     case rel=>exact ⟨k+1,by omega,by go_num,hst.out⟩
     case measure=>simp [intOf];omega
   ·have hkl : k=l.length:=by omega
    subst hkl
    have c1 : wr.cell? ⟨w.heap.size,1,none⟩=some (.int .i64 next):=bM.cell 1
    have r0 : wr.cell? ⟨w.heap.size+1,0,none⟩=some (.slice none 0 0):=bR.cell 0
    have r1 : wr.cell? ⟨w.heap.size+1,1,none⟩=some (.int .i64 0):=bR.cell 1
    have rf0:=bR.frozen 0
    have rf1:=bR.frozen 1
    have hF:=Lib.hid (And.intro hI.finish hI.keep.size)
    clear hI
    go_wp2
    obtain ⟨⟨vs,hT,hE,hfar⟩,hsz⟩:=hF.out
    have hsz1:=bR.lt
    have hX:=((ExtBut.setCell wr ⟨w.heap.size+1,0,none⟩ (.slice (some ⟨g,0,none⟩) l.length cp2)).mono (S':=fun b=>b=w.heap.size+1) (fun x _ h=>h)).trans ((ExtBut.setCell _ ⟨w.heap.size+1,1,none⟩ (.int .i64 next)).mono (S':=fun b=>b=w.heap.size+1) (fun x _ h=>h))
    refine bodyPost_ret (v := .agg #[.slice (some ⟨g,0,none⟩) l.length cp2,.int .i64 next]) (by simp [results,Tryd.f58,go_sem,r0,r1]) rfl ⟨_,vs,rfl,hT.but OwnC.keep hX (fun g' e h=>by simp [Value.ownBlock] at e;omega) (fun s hs b e h=>by have:=hfar s hs b e;have:=hH.out.2.2.2.lt;omega),ExtBut.ext hE hX (fun x h=>by omega)⟩
end Go.Proofs.YtnplphcnagooeaaDoor

/- Contracts: Twin of the reference of layer 26. -/
namespace Go.Proofs.YtnplphcnagooeaaDoor
set_option maxRecDepth 100000
open Go.RowKit
end Go.Proofs.YtnplphcnagooeaaDoor

/- Contracts: Add of the program and of the reference. -/
namespace Go.Proofs.YtnplphcnagooeaaDoor
set_option maxRecDepth 100000
open Go.RowKit
def FrM (w w' : World) (v : Value) (m : Mem) : Prop := ∀ w'' : World,ExtBut (fun b=>b < w.heap.size) w' w''→RdM w'' v m
theorem FrM.read {w w' : World} {v : Value} {m : Mem} (h : FrM w w' v m) : RdM w' v m:=h w' (ExtBut.refl _ _)
theorem FrM.ext {w w' w2 : World} {v : Value} {m : Mem} (h : FrM w w' v m) (hE : Ext w' w2) : FrM w w2 v m:=fun w'' h2=>h w'' ((ExtBut.of_ext hE).trans h2)
theorem FrM.but {w w' w2 : World} {v : Value} {m : Mem} {S : Nat→Prop} (h : FrM w w' v m) (hE : ExtBut S w' w2) (hS : ∀ b,S b→b < w.heap.size) : FrM w w2 v m:=fun w'' h2=>h w'' ((hE.mono fun b _ hb=>hS b hb).trans h2)
theorem FrM.mono {w0 w w' : World} {v : Value} {m : Mem} (h : FrM w w' v m) (hw : w0.heap.size≤w.heap.size) : FrM w0 w' v m:=fun w'' h2=>h w'' (h2.mono fun _ _ hb=>Nat.lt_of_lt_of_le hb hw)
theorem FrM.zero (w w' : World) : FrM w w' (.agg #[.slice none 0 0,.int .i64 0]) Mem.zero:=fun w'' _=>RdM.zero w''
theorem FrM.of_OM {w w' : World} {B : Nat} {v : Value} {vs : List Value} {l : List Alloc} {next : Int} (h : OM w' B v vs l) (hB : w.heap.size≤B) : FrM w w' (.agg #[v,.int .i64 next]) ⟨l,next⟩:=fun w'' h2 =>
 ⟨_,rfl,OM.read (OM.but h h2 (fun g e hl=>by have:=(h.outer.lt e).1;omega) (fun s hs g e hl=>by have:=(OM.inner_lt h s hs g e).1;omega))⟩
def RetMN (w : World) (m : Mem) (n err : Int) (en : Ending) (w' : World) : Prop := ∃ v,en = .returned (.tuple #[v,.int .i64 n,.int .i64 err])∧FrM w w' v m∧Ext w w'
theorem small_of_ok {m : Mem} (h : m.ok=true) : small m.al:=by
 unfold Mem.ok okM at h
 simp only [Bool.and_eq_true,decide_eq_true_eq] at h
 refine ⟨by omega,?_⟩
 have hgo : ∀ (l : List Alloc) (least : Int),okAl m.next least l=true → ∀ a ∈ l,a.cells.length≤1000000:=by
  intro l
  induction l with
  | nil=>intro _ _ a ha;cases ha
  | cons x l ih =>
   intro least h a ha
   simp only [okAl,Bool.and_eq_true,decide_eq_true_eq] at h
   rcases List.mem_cons.1 ha with rfl | ha
   ·omega
   ·exact ih _ h.2 a ha
 exact hgo m.al 0 h.2
theorem ok_bounds {m : Mem} (h : m.ok=true) : m.al.length≤400∧0≤m.next∧m.next≤1000000:=by
 unfold Mem.ok okM inB at h
 simp only [Bool.and_eq_true,decide_eq_true_eq] at h
 omega
theorem addR_bad {m : Mem} {size : Int} (h : m.ok=false) : addR m size=(Mem.zero,0,8):=by simp [addR,h]
theorem addR_arg {m : Mem} {size : Int} (h : m.ok=true) (hs : size < 1∨2 < size) : addR m size=(Mem.zero,0,2):=by simp [addR,h,hs]
theorem addR_full {m : Mem} {size : Int} (h : m.ok=true) (hs : ¬ (size < 1∨2 < size)) (hf : m.al.length=400∨m.next=1000000) : addR m size=(Mem.zero,0,18):=by simp [addR,h,hs,hf]
theorem addR_yes {m : Mem} {size : Int} (h : m.ok=true) (hs : ¬ (size < 1∨2 < size)) (hf : ¬ (m.al.length=400∨m.next=1000000)) : addR m size=(⟨m.al ++ [newAlloc m.next size.toNat],m.next+1⟩,m.next,0):=by simp [addR,h,hs,hf]
set_option maxHeartbeats 1600000 in
theorem allocs_Add {m : Mem} {s : Value} {w : World} (size : Int) (hl : Als w s m.al) (hn : i64B m.next) :
  Calls Tryd.prog 27 #[.agg #[s,.int .i64 m.next],.int .i64 size] w (RetMN w (addR m size).1 (addR m size).2.1 (addR m size).2.2):=by
 have hE0:=((Ext.refl w).alloc (.cells #[s,.int .i64 m.next] 31)).alloc (.cells #[.slice none 0 0,.int .i64 0] 31)
 obtain ⟨a,cp,rfl,hlc,hcm,-⟩:=hl.form
 have bM:=(Box.new w 31 #[.slice a m.al.length cp,.int .i64 m.next]).ext ((Ext.refl _).alloc (.cells #[.slice none 0 0,.int .i64 0] 31))
 have bR:=Box.new (w.alloc (.cells #[.slice a m.al.length cp,.int .i64 m.next] 31)) 31 #[.slice none 0 0,.int .i64 0]
 rw [World.size_alloc] at bR
 have hCk:=Lib.hid (allocs_Check (hl.ext hE0) hn)
 have hL:=Lib.hid hl
 cases hok : m.ok
 ·have hce : Hid (memErr m.al m.next=8):=Hid.mk (memErr_bad hok)
  have hres:=Lib.hid (addR_bad (size:=size) hok)
  clear hok hl
  go_enter Tryd.func27,Tryd.ntmps27
  go_wp2_with fail
  refine hCk.out.mono ?_
  rintro e w1 ⟨rfl,hE1⟩
  rw [hce.out]
  have bR1:=bR.ext hE1
  have r0 : w1.cell? ⟨w.heap.size+1,0,none⟩=some (.slice none 0 0):=bR1.cell 0
  have r1 : w1.cell? ⟨w.heap.size+1,1,none⟩=some (.int .i64 0):=bR1.cell 1
  have rf0:=bR1.frozen 0
  have rf1:=bR1.frozen 1
  have hF1:=hE0.trans hE1
  clear bM bR bR1
  go_wp2
  rw [hres.out]
  refine bodyPost_ret (v := .tuple #[.agg #[.slice none 0 0,.int .i64 0],.int .i64 0,.int .i64 8]) (by simp [results,Tryd.f27,go_sem,r0,r1]) rfl ⟨_,rfl,FrM.zero _ _,(hF1.setCell (by simp) _).setCell (by simp) _⟩
 ·have hce : Hid (memErr m.al m.next=0):=Hid.mk (memErr_ok hok)
  have hsm:=small_of_ok hok
  obtain ⟨hb1,hb2,hb3⟩:=ok_bounds hok
  by_cases hs : size < 1∨2 < size
  ·have hres:=Lib.hid (addR_arg hok hs)
   clear hok hl
   rcases hs with hs | hs
   ·have q1 : decide (size < 1)=true:=decide_eq_true hs
    go_enter Tryd.func27,Tryd.ntmps27
    go_wp2_with fail
    refine hCk.out.mono ?_
    rintro e w1 ⟨rfl,hE1⟩
    rw [hce.out]
    have bR1:=bR.ext hE1
    have r0 : w1.cell? ⟨w.heap.size+1,0,none⟩=some (.slice none 0 0):=bR1.cell 0
    have r1 : w1.cell? ⟨w.heap.size+1,1,none⟩=some (.int .i64 0):=bR1.cell 1
    have rf0:=bR1.frozen 0
    have rf1:=bR1.frozen 1
    have hF1:=hE0.trans hE1
    clear bM bR bR1
    go_wp2
    rw [hres.out]
    refine bodyPost_ret (v := .tuple #[.agg #[.slice none 0 0,.int .i64 0],.int .i64 0,.int .i64 2]) (by simp [results,Tryd.f27,go_sem,r0,r1]) rfl ⟨_,rfl,FrM.zero _ _,(hF1.setCell (by simp) _).setCell (by simp) _⟩
   ·have q1 : decide (size < 1)=false:=decide_eq_false (by omega)
    have q2 : decide (2 < size)=true:=decide_eq_true hs
    go_enter Tryd.func27,Tryd.ntmps27
    go_wp2_with fail
    refine hCk.out.mono ?_
    rintro e w1 ⟨rfl,hE1⟩
    rw [hce.out]
    have bR1:=bR.ext hE1
    have r0 : w1.cell? ⟨w.heap.size+1,0,none⟩=some (.slice none 0 0):=bR1.cell 0
    have r1 : w1.cell? ⟨w.heap.size+1,1,none⟩=some (.int .i64 0):=bR1.cell 1
    have rf0:=bR1.frozen 0
    have rf1:=bR1.frozen 1
    have hF1:=hE0.trans hE1
    clear bM bR bR1
    go_wp2
    rw [hres.out]
    refine bodyPost_ret (v := .tuple #[.agg #[.slice none 0 0,.int .i64 0],.int .i64 0,.int .i64 2]) (by simp [results,Tryd.f27,go_sem,r0,r1]) rfl ⟨_,rfl,FrM.zero _ _,(hF1.setCell (by simp) _).setCell (by simp) _⟩
  ·have q1 : decide (size < 1)=false:=decide_eq_false (by omega)
   have q2 : decide (2 < size)=false:=decide_eq_false (by omega)
   by_cases hf : m.al.length=400∨m.next=1000000
   ·have hres:=Lib.hid (addR_full hok hs hf)
    clear hok hl
    have q3 : ((m.al.length : Int) == 400)=true∨((m.al.length : Int) == 400)=false∧(m.next == 1000000)=true:=by
     rcases hf with h | h
     ·exact .inl (beq_iff_eq.2 (by omega))
     ·by_cases h4 : m.al.length=400
      ·exact .inl (beq_iff_eq.2 (by omega))
      ·exact .inr ⟨beq_eq_false_iff_ne.2 (by omega),beq_iff_eq.2 h⟩
    clear hf hs
    rcases q3 with q3 | ⟨q3,q4⟩
    all_goals
     go_enter Tryd.func27,Tryd.ntmps27
     go_wp2_with fail
     refine hCk.out.mono ?_
     rintro e w1 ⟨rfl,hE1⟩
     rw [hce.out]
     have bR1:=bR.ext hE1
     have bM1:=bM.ext hE1
     have m0 : w1.cell? ⟨w.heap.size,0,none⟩=some (.slice a m.al.length cp):=bM1.cell 0
     have m1 : w1.cell? ⟨w.heap.size,1,none⟩=some (.int .i64 m.next):=bM1.cell 1
     have r0 : w1.cell? ⟨w.heap.size+1,0,none⟩=some (.slice none 0 0):=bR1.cell 0
     have r1 : w1.cell? ⟨w.heap.size+1,1,none⟩=some (.int .i64 0):=bR1.cell 1
     have rf0:=bR1.frozen 0
     have rf1:=bR1.frozen 1
     have hF1:=hE0.trans hE1
     clear bM bR bR1 bM1
     go_wp2
     rw [hres.out]
     refine bodyPost_ret (v := .tuple #[.agg #[.slice none 0 0,.int .i64 0],.int .i64 0,.int .i64 18]) (by simp [results,Tryd.f27,go_sem,r0,r1]) rfl ⟨_,rfl,FrM.zero _ _,(hF1.setCell (by simp) _).setCell (by simp) _⟩
   ·have hres:=Lib.hid (addR_yes hok hs hf)
    have q3 : ((m.al.length : Int) == 400)=false:=beq_eq_false_iff_ne.2 (by omega)
    have q4 : (m.next == 1000000)=false:=beq_eq_false_iff_ne.2 (by omega)
    have hl4 : m.al.length≤1000000:=by omega
    obtain ⟨n,rfl⟩ : ∃ n : Nat,size=(n : Int):=⟨size.toNat,by omega⟩
    have hn12 : 1≤n∧n≤2:=by omega
    have hmk:=make_Cells n (by omega)
    obtain ⟨ai,az,hai,haz,hai3,haz3,haby⟩:=Alloc.infoE
    have hai':=Lib.hid hai;have haz':=Lib.hid haz;have hai3':=Lib.hid hai3;have haz3':=Lib.hid haz3;have haby':=Lib.hid haby
    clear hok hl hf hs hai haz hai3 haz3 haby
    ·skip
     go_enter Tryd.func27,Tryd.ntmps27
     go_wp2_with fail
     refine hCk.out.mono ?_
     rintro e w1 ⟨rfl,hE1⟩
     rw [hce.out]
     have bR1:=bR.ext hE1
     have bM1:=bM.ext hE1
     have m0 : w1.cell? ⟨w.heap.size,0,none⟩=some (.slice a m.al.length cp):=bM1.cell 0
     have m1 : w1.cell? ⟨w.heap.size,1,none⟩=some (.int .i64 m.next):=bM1.cell 1
     have hF1:=hE0.trans hE1
     go_wp2_with fail
     refine (allocs_clone (hL.out.ext hF1) hsm).mono ?_
     rintro e w2 ⟨v,vs,rfl,hOM,hE2⟩
     have hF2:=hF1.trans hE2
     have hO:=hOM.outer
     have hvB:=fun g e=>(hO.lt (g:=g) e)
     obtain ⟨a2,cp2,rfl,hlc2,hcm2,-⟩:=hO.sl.slice_form
     unfold maxLen at hcm2
     have bR2:=bR1.ext hE2
     have bM2:=bM1.ext hE2
     have mf0:=bM2.frozen 0
     have mf1:=bM2.frozen 1
     have m0' : w2.cell? ⟨w.heap.size,0,none⟩=some (.slice a m.al.length cp):=bM2.cell 0
     have m1' : w2.cell? ⟨w.heap.size,1,none⟩=some (.int .i64 m.next):=bM2.cell 1
     clear m0 m1
     go_wp2
     have hK3 : ExtBut (fun b=>b=w.heap.size) w2 ((w2.setCell ⟨w.heap.size,0,none⟩ (.slice a2 m.al.length cp2)).setCell ⟨w.heap.size,1,none⟩ (.int .i64 m.next)):=(ExtBut.setCell w2 ⟨w.heap.size,0,none⟩ (.slice a2 m.al.length cp2)).trans (ExtBut.setCell _ ⟨w.heap.size,1,none⟩ (.int .i64 m.next))
     have hw1 : w.heap.size+1 < w1.heap.size:=bR1.lt
     have bM3:=(bM2.set 0 (.slice a2 m.al.length cp2)).set 1 (.int .i64 m.next)
     have bR3:=bR2.but hK3 (by omega)
     have hF3:=ExtBut.ext hF2 hK3 (fun x h=>by omega)
     have hOM3:=hOM.but hK3 (fun g e h=>by have:=(hvB g e).1;omega) (fun s hs g e h=>by have:=(hOM.inner_lt s hs g e).1;omega)
     obtain ⟨w3,hw3⟩ : ∃ w3,(w2.setCell ⟨w.heap.size,0,none⟩ (.slice a2 m.al.length cp2)).setCell ⟨w.heap.size,1,none⟩ (.int .i64 m.next)=w3:=⟨_,rfl⟩
     have hs3 : w2.heap.size≤w3.heap.size:=by rw [← hw3];simp
     have hs13 : w1.heap.size≤w3.heap.size:=Nat.le_trans hE2.size hs3
     rw [hw3] at bM3 bR3 hF3 hOM3 ⊢
     have n0 : w3.cell? ⟨w.heap.size,0,none⟩=some (.slice a2 m.al.length cp2):=bM3.cell 0
     have n1 : w3.cell? ⟨w.heap.size,1,none⟩=some (.int .i64 m.next):=bM3.cell 1
     have nf0:=bM3.frozen 0
     have nf1:=bM3.frozen 1
     have hH:=Lib.hid (And.intro bM3 (And.intro bR3 (And.intro hF3 (And.intro hOM3 (And.intro hvB hw1)))))
     have hlt3 : w.heap.size < w3.heap.size:=bM3.lt
     clear hw3 hK3 bM bR bR1 bM1 bR2 bM2 bM3 bR3 hOM hO hF2 hF1 hvB mf0 mf1 m0' m1' hF3 hOM3 hE2 hE1
     have hzo : ∀ w' : World,Ext w3 w'→Sl ((w'.alloc (.cells (zcells n) 28)).alloc (.cells #[.int .i64 m.next,.bool true,.slice (some ⟨w'.heap.size,0,none⟩) n n] 109)) 3 (.slice (some ⟨w'.heap.size+1,0,none⟩) 1 1) 1 (arow (.slice (some ⟨w'.heap.size,0,none⟩) n n) (newAlloc m.next n)):=fun w' _=>by
      have:=(Own.lit' (B:=0) (e:=109) (k:=3) (w'.alloc (.cells (zcells n) 28)) #[.int .i64 m.next,.bool true,.slice (some ⟨w'.heap.size,0,none⟩) n n] 1 (Nat.zero_le _) (by simp [maxLen]) rfl).sl
      rw [World.size_alloc] at this
      exact this
     have hzo:=Lib.hid hzo
     go_region_law (first | (rw [if_pos (by rfl)];refine wp_append_any (.tmp 37) (.tmp 42) 29 29 rfl rfl rfl (B:=w1.heap.size) (e:=109) (n:=m.al.length) (m:=1) (xs:=trows arow vs m.al) (ys:=arow (.slice (some ⟨w3.heap.size,0,none⟩) n n) (newAlloc m.next n)) Tryd.underlying29 Tryd.underlying29 hai'.out haz'.out hai3'.out haz3'.out (hH.out.2.2.2.1.outer.ext (((Ext.refl _).alloc _).alloc _).drew) ?_ ?_ ?_ ?_ ?_ ?_;(exact Sl.ext (hzo.out _ (Ext.refl _)) (Ext.refl _).drew);(simp [arow,Value.oneCell']);(simp [maxLen];omega);(rw [haby'.out];omega);(simp;omega);intro v' w' hO' hK' hb' _;obtain ⟨a3,cp3,rfl,-⟩:=hO'.sl.slice_form;have bM':=(hH.out.1.ext (((Ext.refl _).alloc _).alloc _).drew).but (ExtBut.of_keeps hK') (fun h=>by have:=(hH.out.2.2.2.2.1 _ h).1;have:=hH.out.2.2.2.2.2;omega);have k0 : w'.cell? ⟨w.heap.size,0,none⟩=some (.slice a2 m.al.length cp2):=bM'.cell 0;have kf:=bM'.frozen 0))
     all_goals
      have hEx:=((((Ext.refl w3).alloc (.cells (zcells n) 28)).alloc (.cells #[.int .i64 m.next,.bool true,.slice (some ⟨w3.heap.size,0,none⟩) n n] 109)).drew)
      have hzc : OwnC (((w3.alloc (.cells (zcells n) 28)).alloc (.cells #[.int .i64 m.next,.bool true,.slice (some ⟨w3.heap.size,0,none⟩) n n] 109)).drew) w1.heap.size (.slice (some ⟨w3.heap.size,0,none⟩) n n) (newAlloc m.next n):=Own.ext (zcells_own n (by omega) w3 hs13) (((Ext.refl _).alloc _).drew)
      have hP:=OM.push hH.out.2.2.2.1 hEx hzc (fun g e=>by have h' : some w3.heap.size=some g:=e;cases h';exact Nat.le_refl _) hO' hK' hb'
      have hF4:=Ext.trans hH.out.2.2.1 hEx
      have hS4:=ExtBut.of_keeps hK'
      have hvB:=hH.out.2.2.2.2.1
      have hin:=OM.inner_lt hP
      have hvB':=fun g e=>(hO'.lt (g:=g) e).1
      have hF5:=ExtBut.ext hF4 hS4 (fun x h=>by have:=(hvB _ h).1;omega)
      have bR5:=(hH.out.2.1.ext hEx).but hS4 (fun h=>by have:=(hvB _ h).1;omega)
      have bM6:=bM'.set 0 (.slice a3 (m.al.length+1) cp3)
      have hX6 : ExtBut (fun b=>b=w.heap.size∨b=w.heap.size+1) w' (w'.setCell ⟨w.heap.size,0,none⟩ (.slice a3 (m.al.length+1) cp3)):=(ExtBut.setCell w' ⟨w.heap.size,0,none⟩ (.slice a3 (m.al.length+1) cp3)).mono (fun x _ h => .inl h)
      have bR6:=bR5.other (p:=⟨w.heap.size,0,none⟩) (by simp) (.slice a3 (m.al.length+1) cp3)
      clear bM' k0 kf bR5 hEx hzc hK' hb' hO' hF4 hS4
      obtain ⟨w6,hw6⟩ : ∃ w6,w'.setCell ⟨w.heap.size,0,none⟩ (.slice a3 (m.al.length+1) cp3)=w6:=⟨_,rfl⟩
      rw [hw6] at bM6 bR6 hX6 ⊢
      clear hw6
      have e0 : w6.cell? ⟨w.heap.size,0,none⟩=some (.slice a3 (m.al.length+1) cp3):=bM6.cell 0
      have e1 : w6.cell? ⟨w.heap.size,1,none⟩=some (.int .i64 m.next):=bM6.cell 1
      have ef1:=bM6.frozen 1
      have r0 : w6.cell? ⟨w.heap.size+1,0,none⟩=some (.slice none 0 0):=bR6.cell 0
      have r1 : w6.cell? ⟨w.heap.size+1,1,none⟩=some (.int .i64 0):=bR6.cell 1
      have rf0:=bR6.frozen 0
      have rf1:=bR6.frozen 1
      have hlt6:=bM6.lt
      have hA:=Lib.hid (And.intro hP (And.intro hF5 (And.intro hX6 (And.intro hin hvB'))))
      clear hP hF5 hX6 hin hvB' bM6 bR6 hvB
      go_wp2
      rw [hres.out,Int.toNat_natCast]
      obtain ⟨hP,hF5,hX6,hin,hvB'⟩:=hA.out
      have hX7:=((hX6.trans ((ExtBut.setCell w6 ⟨w.heap.size,1,none⟩ (.int .i64 (m.next+1))).mono (S':=fun b=>b=w.heap.size∨b=w.heap.size+1) (fun x _ h => .inl h))).trans ((ExtBut.setCell _ ⟨w.heap.size+1,0,none⟩ (.slice a3 (m.al.length+1) cp3)).mono (S':=fun b=>b=w.heap.size∨b=w.heap.size+1) (fun x _ h => .inr h))).trans ((ExtBut.setCell _ ⟨w.heap.size+1,1,none⟩ (.int .i64 (m.next+1))).mono (S':=fun b=>b=w.heap.size∨b=w.heap.size+1) (fun x _ h => .inr h))
      refine bodyPost_ret (v := .tuple #[.agg #[.slice a3 (m.al.length+1) cp3,.int .i64 (m.next+1)],.int .i64 m.next,.int .i64 0]) (by simp [results,Tryd.f27,go_sem,r0,r1]) rfl ⟨_,rfl,FrM.of_OM (OM.but hP hX7 (fun g e h=>by have:=hvB' g e;omega) (fun s hs g e h=>by have:=(hin s hs g e).1;omega)) (by omega),ExtBut.ext hF5 hX7 (fun x h=>by omega)⟩
end Go.Proofs.YtnplphcnagooeaaDoor

/- Monitors aas Lean data, and what a value in memory reads aas; what Check gives; no program in sight. (printed by gen/mon35.py) -/
namespace Go.Proofs.YtnplphcnagooeaaDoor
set_option maxRecDepth 100000
open Go.RowKit
structure Mon where
 mem : Mem
 stks : List Stk
 run : List Int
 tag : Int
 call : Int
 deriving DecidableEq
def Mon.zero : Mon:=⟨Mem.zero,[],[],0,0⟩
def RdMon (w : World) (v : Value) (m : Mon) : Prop := ∃ sa ss sr,v = .agg #[sa,.int .i64 m.mem.next,ss,sr,.int .i64 m.tag,.int .i64 m.call]∧Als w sa m.mem.al∧Kts w ss m.stks∧Nts w sr m.run
theorem RdMon.ext {w w' : World} {v : Value} {m : Mon} (h : RdMon w v m) (he : Ext w w') : RdMon w' v m:=by
 obtain ⟨sa,ss,sr,rfl,h1,h2,h3⟩:=h
 exact ⟨sa,ss,sr,rfl,h1.ext he,h2.ext he,h3.ext he⟩
def FrMon (w w' : World) (v : Value) (m : Mon) : Prop := ∀ w'' : World,ExtBut (fun b=>b < w.heap.size) w' w''→RdMon w'' v m
theorem FrMon.read {w w' : World} {v : Value} {m : Mon} (h : FrMon w w' v m) : RdMon w' v m:=h w' (ExtBut.refl _ _)
theorem FrMon.ext {w w' w2 : World} {v : Value} {m : Mon} (h : FrMon w w' v m) (hE : Ext w' w2) : FrMon w w2 v m:=fun w'' h2=>h w'' ((ExtBut.of_ext hE).trans h2)
theorem FrMon.mono {w0 w w' : World} {v : Value} {m : Mon} (h : FrMon w w' v m) (hw : w0.heap.size≤w.heap.size) : FrMon w0 w' v m:=fun w'' h2=>h w'' (h2.mono fun _ _ hb=>Nat.lt_of_lt_of_le hb hw)
theorem okK_bounds {x : Stk} (h : okK x=true) : x.cells.length≤2 ∧ ∀ s ∈ x.cells,s.length≤600:=by
 unfold okK at h
 simp only [Bool.and_eq_true,decide_eq_true_eq] at h
 refine ⟨by omega,fun s hs => ?_⟩
 have:=List.all_eq_true.1 h.2 s hs
 simp only [okS,Bool.and_eq_true,decide_eq_true_eq] at this
 omega
def cntd (n : Int) : Bool:=decide (1≤n) && decide (n≤1000000)
def itM (tag call : Int) (x : Item) : Bool:=decide (x.t < tag) && decide (x.c < call)
def rowM (tag call : Int) (x : Stk) (a : Alloc) : Bool:=x.num == a.num && x.cells.length == a.cells.length && okK x && x.cells.flatten.all (fun it=>a.live && itM tag call it)
def headM (m : Mon) : Bool:=okM m.mem.al m.mem.next && m.stks.length == m.mem.al.length && cntd m.tag && cntd m.call && okR m.run
def lastM (m : Mon) : Bool:=m.run.length == 0 || decide (lastR m.run < m.call)
def rowAtM (m : Mon) (i : Nat) : Bool:=match m.stks[i]?,m.mem.al[i]? with
 | some x,some a=>rowM m.tag m.call x a
 | _,_=>false
def rowsM (m : Mon) : Bool:=(List.range m.mem.al.length).all (rowAtM m)
def okMon (m : Mon) : Bool:=headM m && lastM m && rowsM m
def monErr (m : Mon) : Int:=if okMon m then 0 else 8
theorem monErr_head {m : Mon} (h : headM m=false) : monErr m=8:=by simp [monErr,okMon,h]
theorem monErr_last {m : Mon} (h : lastM m=false) : monErr m=8:=by simp [monErr,okMon,h]
theorem monErr_row {m : Mon} {i : Nat} (hi : i < m.mem.al.length) (h : rowAtM m i=false) : monErr m=8:=by
 have : rowsM m=false:=by
  rw [Bool.eq_false_iff]
  intro hr
  have:=List.all_eq_true.1 hr i (List.mem_range.2 hi)
  rw [h] at this
  cases this
 simp [monErr,okMon,this]
theorem monErr_ok {m : Mon} (h1 : headM m=true) (h2 : lastM m=true) (h3 : ∀ i,i < m.mem.al.length→rowAtM m i=true) : monErr m=0:=by
 have : rowsM m=true:=List.all_eq_true.2 fun i hi=>h3 i (List.mem_range.1 hi)
 simp [monErr,okMon,h1,h2,this]
end Go.Proofs.YtnplphcnagooeaaDoor

/- Contracts: slices.Grow of nil and slices.Concat at stacks of items. -/
namespace Go.Proofs.YtnplphcnagooeaaDoor
set_option maxRecDepth 100000
open Go.RowKit
theorem wpList_append_zeros {P : Program} {w : World} {ops : Array Oper} {rest : List Oper} {o : Oper} {a : Act} {Q : Exit→Act→World→Prop} (hgd : o.guard=none) (s x : Operand) (t tn : TypeId)
  (ho : o.op = .call { callee := .builtin .append,args:=#[s,x],argTypes:=#[t,tn] }) {n : Nat} {kq kn : IntKind} (hs : a.eval s = .slice none 0 0) (hu : a.eval x = .int kq n) {e : TypeId} {i : TypeInfo} {z : Value} {k : Nat}
  (ht : P.underlying t=some (.slice e)) (htn : P.underlying tn=some (.int kn)) (hi : P.info? e=some i) (hz : i.zero=some z) (hik : i.size=k) (hzk : z.cells.size=k) (h0 : 0 < n) (hk : 0 < k) (h63 : n≤maxLen) (hbytes : n * i.bytes≤140737488355328)
  (h : ∀ v' w',(∃ g cap cur,v' = .slice (some ⟨g,0,none⟩) n cap∧w.heap.size≤g∧w'.heap[g]? = some (.cells cur e (0,0))∧n≤cap∧cap≤maxLen∧cur.size=cap * k)→Ext w w'→wpList P ops Q rest (a.put o.dst v') w') : wpList P ops Q (o :: rest) a w:=by
 refine wpList_plain hgd fun _ hK => ?_
 subst hik
 have hr:=Go.Lib.run_append_nil_zeros (P:=P) w t tn o.type e i z kq kn ht htn hi hz n h0 hk (by simp only [maxLen] at h63;omega) (by omega)
 have hge : n≤grownCap w n 0 e:=grownCap_ge w n 0 e
 have hcm : grownCap w n 0 e≤maxLen:=grownCap_le_maxLen w n 0 e h63
 unfold Oper.wp execOp
 simp only [ho,resolve,invoke,builtin,Sem.run_bind,Sem.run_pure,Result.andThen_ok,List.map_toArray,List.map_cons,List.map_nil,hs,hu,hr]
 refine hK _ _ (h _ _ ⟨w.heap.size,_,_,rfl,Nat.le_refl _,heap_alloc_new w.drew _,hge,hcm,?_⟩ ((Ext.refl w).drew.alloc _))
 rw [Array.size_append,size_zeroCells,size_zeroCells,hzk,← Nat.add_mul]
 congr 1
 omega
set_option maxHeartbeats 800000 in
theorem grow_Items {n : Nat} (hn : n≤2000) (w : World) : Calls Tryd.prog 89 #[.slice none 0 0,.int .i64 (n : Int)] w fun e w' => ∃ v,e = .returned v∧OwnI w' w.heap.size v []∧Ext w w':=by
 obtain ⟨ii,iz,hi,hz,hi3,hz3,hby⟩:=Item.infoE
 have hs0 : ∀ w,(Instr.slice 57 (.slice none 0 0) none (some (.int .i64 0)) none).run Tryd.prog w = .ok (.slice none 0 0) w:=slice_upto_Stack none [] 0 0 0 rfl (by decide)
 by_cases h0 : n=0
 ·subst h0
  go_enter Tryd.func89,Tryd.ntmps89
  go_wp2
  go_ret
  exact ⟨_,rfl,OwnI.nil _ _,Ext.refl _⟩
 ·have q0 : decide ((n : Int) < 0)=false:=decide_eq_false (by omega)
  have q1 : decide (0 < (n : Int))=true:=decide_eq_true (by omega)
  have q1' : decide (0 < n)=true:=decide_eq_true (by omega)
  have w1 : IntKind.i64.wrap (n : Int)=(n : Int):=IntWalk.i64_in _ (by omega)
  have hs1 : ∀ (g cap : Nat) (w : World),(Instr.slice 57 (.slice (some ⟨g,0,none⟩) n cap) none (some (.int .i64 0)) none).run Tryd.prog w = .ok (.slice (some ⟨g,0,none⟩) 0 cap) w:=fun g cap w=>run_slice_upto Tryd.underlying57 hi (some ⟨g,0,none⟩) n cap 0 0 rfl (Nat.zero_le _) w
  have hi:=Lib.hid hi;have hz:=Lib.hid hz;have hi3:=Lib.hid hi3;have hz3:=Lib.hid hz3;have hby:=Lib.hid hby;have h0:=Lib.hid h0;have hn:=Lib.hid hn
  go_enter Tryd.func89,Tryd.ntmps89
  go_wp2_with (at_builtin;refine Hid.out ?_)
  refine Hid.mk ?_
  refine wpList_append_zeros rfl _ _ 57 3 rfl rfl rfl Tryd.underlying57 Tryd.underlying3 hi.out hz.out hi3.out hz3.out (by have:=h0.out;omega) (by decide) (by have:=hn.out;simp [maxLen];omega) (by rw [hby.out];have:=hn.out;omega) ?_
  rintro v' w' ⟨g,cap,cur,rfl,hg,hh,hnc,hcm,hcs⟩ hE
  have hH:=Lib.hid (And.intro hg (And.intro hh (And.intro hcm (And.intro hcs hE))))
  have hnc' : n≤cap:=hnc
  clear hg hh hcm hcs hE
  go_wp2
  go_ret
  exact ⟨_,rfl,⟨rfl,.inr ⟨g,cap,cur,rfl,hH.out.1,hH.out.2.1,Nat.zero_le _,hH.out.2.2.1,hH.out.2.2.2.1,by simp⟩⟩,hH.out.2.2.2.2⟩
theorem flatten_take_succ {l : List (List Item)} {k : Nat} {x : List Item} (hx : l[k]? = some x) : (l.take (k+1)).flatten=(l.take k).flatten ++ x:=by
 rw [List.take_add_one,hx]
 simp
theorem flatten_len {l : List (List Item)} (hb : ∀ s ∈ l,s.length≤600) : ∀ k,((l.take k).flatten).length≤k * 600:=by
 intro k
 induction k with
 | zero=>simp
 | succ k ih =>
  cases hx : l[k]? with
  | none=>rw [List.take_of_length_le (by have:=List.getElem?_eq_none_iff.1 hx;omega)];rw [List.take_of_length_le (by have:=List.getElem?_eq_none_iff.1 hx;omega)] at ih;omega
  | some x=>rw [flatten_take_succ hx,List.length_append];have:=hb x (List.mem_of_getElem? hx);omega
set_option maxHeartbeats 1600000 in
theorem concat_Items {l : List (List Item)} {v : Value} {w : World} (hl : Sts w v l) (h2 : l.length≤2) (hb : ∀ s ∈ l,s.length≤600) : Calls Tryd.prog 54 #[v] w fun e w' => ∃ u,e = .returned u∧OwnI w' w.heap.size u l.flatten∧Ext w w':=by
 obtain ⟨ii,iz,hi,hz,hi3,hz3,hby⟩:=Item.infoE
 have hi:=Lib.hid hi;have hz:=Lib.hid hz;have hi3:=Lib.hid hi3;have hz3:=Lib.hid hz3;have hby:=Lib.hid hby
 obtain ⟨a,cp,rfl,hlc,hcm,-⟩:=hl.form
 unfold maxLen at hcm
 have hlen:=Lib.hid (flatten_len hb)
 have hb:=Lib.hid hb
 go_enter Tryd.func54,Tryd.ntmps54
 go_wp2
 go_loopw [3,11] (fun sv iv wr => ∃ k : Nat,k≤l.length∧iv = .int .i64 k∧sv = .int .i64 (((l.take k).flatten).length : Nat)∧w=wr) (fun _ iv _=>l.length - (intOf iv).toNat)
 case atStart=>exact ⟨0,Nat.zero_le _,rfl,rfl,rfl⟩
 case round =>
  obtain ⟨k,hk,rfl,rfl,rfl⟩:=hrel
  by_cases hlt : k < l.length
  ·have hlt' : decide (k < l.length)=true:=decide_eq_true hlt
   obtain ⟨x,hx⟩ : ∃ x,l[k]? = some x:=⟨l[k],by simp [hlt]⟩
   obtain ⟨b,off,s,rfl,hbb,hc,hs⟩:=hl.cell hx
   obtain ⟨as',cs',rfl,-⟩:=hs.form
   have hxl:=hb.out x (List.mem_of_getElem? hx)
   have hfl:=hlen.out k
   have hsum : (((l.take k).flatten).length : Int)+(x.length : Int)=(((l.take (k+1)).flatten).length : Nat):=by rw [flatten_take_succ hx,List.length_append];omega
   have hfl2:=hlen.out (k+1)
   have hw1 : IntKind.i64.wrap ((((l.take k).flatten).length : Int)+(x.length : Int))=(((l.take (k+1)).flatten).length : Nat):=by rw [hsum];exact IntWalk.i64_in _ (by omega)
   have hi0 : (0 : Int)≤(k : Int):=by omega
   have hi1 : (k : Int) < (l.length : Int):=by omega
   have hneg : decide ((((l.take (k+1)).flatten).length : Int) < 0)=false:=decide_eq_false (by omega)
   replace hsum:=Lib.hid hsum
   replace hx:=Lib.hid hx
   replace hs:=Lib.hid hs
   generalize hA1 : ((l.take k).flatten).length=A1 at *
   generalize hA2 : ((l.take (k+1)).flatten).length=A2 at *
   replace hA1:=Lib.hid hA1
   replace hA2:=Lib.hid hA2
   go_wp2
   go_roundw
   case rel=>exact ⟨k+1,by omega,by go_num,by rw [hA2.out],by first | rfl | trivial⟩
   case measure=>simp [intOf];omega
  ·have hke : k=l.length:=by omega
   subst hke
   have hlt' : decide (l.length < l.length)=false:=decide_eq_false (by omega)
   rw [List.take_length]
   have hfl:=hlen.out l.length
   rw [List.take_length] at hfl
   obtain ⟨N,hN⟩ : ∃ N,l.flatten.length=N:=⟨_,rfl⟩
   rw [hN] at hfl ⊢
   replace hN:=Lib.hid hN
   clear hlt hk
   go_wp2_with fail
   refine (grow_Items (n:=N) (by omega) _).mono ?_
   rintro e w1 ⟨u,rfl,hO,hE⟩
   obtain ⟨ua,uc,rfl,-⟩:=(OwnI.its hO).form
   have hO0 : OwnI w1 w.heap.size (.slice ua ([] : List Item).length uc) ((l.take 0).flatten):=hO
   go_wp2
   go_loopw [6,27] (fun sv iv wr => ∃ k n : Nat,k≤l.length∧iv = .int .i64 k∧Hid (((l.take k).flatten).length=n)∧(∃ a c,sv = .slice a n c)∧Hid (OwnI wr w.heap.size sv ((l.take k).flatten))∧Ext w wr) (fun _ iv _=>l.length - (intOf iv).toNat)
   case atStart=>exact ⟨0,0,Nat.zero_le _,rfl,Hid.mk rfl,⟨_,_,rfl⟩,Hid.mk hO0,hE⟩
   case round =>
    obtain ⟨k,n,hk,rfl,hn,⟨sa,sc,rfl⟩,hW,hX⟩:=hrel
    by_cases hlt : k < l.length
    ·have hlt' : decide (k < l.length)=true:=decide_eq_true hlt
     obtain ⟨x,hx⟩ : ∃ x,l[k]? = some x:=⟨l[k],by simp [hlt]⟩
     obtain ⟨b,off,s,rfl,hbb,hc,hs⟩:=(hl.ext hX).cell hx
     obtain ⟨as',cs',rfl,-⟩:=hs.form
     have hxl:=hb.out x (List.mem_of_getElem? hx)
     have hfl:=hlen.out k
     rw [hn.out] at hfl
     have hi0 : (0 : Int)≤(k : Int):=by omega
     have hi1 : (k : Int) < (l.length : Int):=by omega
     have hbd : Hid (n+x.length≤2000):=Hid.mk (by omega)
     have hWn : Hid (Own wr w.heap.size 52 3 (.slice sa n sc) n (((l.take k).flatten).flatMap Item.row)):=Hid.mk (by have h:=hW.out;unfold OwnI at h;rwa [hn.out] at h)
     have hH:=Lib.hid (And.intro hWn.out (And.intro hs (And.intro hX hx)))
     have hsz : Hid (w.heap.size≤wr.heap.size):=Hid.mk hX.size
     clear hs hX hx hxl hfl hWn hW
     go_wp2_with (at_builtin;refine Hid.out ?_)
     refine Hid.mk ?_
     refine wpList_append_any rfl _ _ 57 57 rfl rfl rfl Tryd.underlying57 Tryd.underlying57 hi.out hz.out hi3.out hz3.out hH.out.1 hH.out.2.1 ?_ (Nat.le_trans hbd.out (by simp [maxLen])) (by rw [hby.out];have:=hbd.out;omega) hsz.out ?_
     ·intro u hu
      obtain ⟨y,hy,hu⟩:=List.mem_flatMap.1 hu
      simp only [Item.row,List.mem_cons,List.not_mem_nil,or_false] at hu
      rcases hu with rfl | rfl | rfl <;> rfl
     intro v' w' hO' hK' _ _
     have hn' : Hid (((l.take (k+1)).flatten).length=n+x.length):=Hid.mk (by rw [flatten_take_succ hH.out.2.2.2,List.length_append,hn.out])
     have hN' : Hid (OwnI w' w.heap.size v' ((l.take (k+1)).flatten)):=Hid.mk (by
      unfold OwnI
      rw [hn'.out,flatten_take_succ hH.out.2.2.2,List.flatMap_append]
      exact hO')
     obtain ⟨a',c',rfl,-⟩:=(Own.sl hO').slice_form
     have hXn : Hid (Ext w w'):=Hid.mk (Below.trans hH.out.2.2.1 hK'.below)
     clear hO' hK'
     go_wp2
     go_roundw
     case rel=>exact ⟨k+1,_,by omega,by go_num,hn',⟨_,_,rfl⟩,hN',hXn.out⟩
     case measure=>simp [intOf];omega
    ·have hke : k=l.length:=by omega
     subst hke
     have hlt' : decide (l.length < l.length)=false:=decide_eq_false (by omega)
     have hW2 : Hid (OwnI wr w.heap.size (.slice sa n sc) l.flatten):=Hid.mk (by have h:=hW.out;rwa [List.take_length] at h)
     clear hlt hk hW hn
     go_wp2
     go_ret
     exact ⟨_,rfl,hW2.out,hX⟩
end Go.Proofs.YtnplphcnagooeaaDoor

/- Contracts: Great, Check and Same of the reference of layer 33, Check of the program. (printed by gen/stk33.py) -/
namespace Go.Proofs.YtnplphcnagooeaaDoor
set_option maxRecDepth 100000
open Go.RowKit
set_option maxHeartbeats 800000 in
theorem ref33_Great {l : List (List Item)} {num : Int} {s : Value} {w : World} (hl : Sts w s l) :
  Calls Tryd.prog 47 #[.agg #[.int .i64 num,s]] w fun e w'=>e = .returned (.bool (greatK l))∧Ext w w':=by
 have hE0:=(Ext.refl w).alloc (.cells #[.int .i64 num,s] 44)
 have hl0:=hl.ext hE0
 obtain ⟨a,cp,rfl,hlc,hcm,-⟩:=hl.form
 unfold maxLen at hcm
 have hW:=Lib.hid hl0
 clear hl hl0
 go_enter Tryd.func47,Tryd.ntmps47
 go_wp2
 obtain ⟨w1,hw1⟩ : ∃ w1,w.alloc (.cells #[.int .i64 num,.slice a l.length cp] 44)=w1:=⟨_,rfl⟩
 have b2 : w1.cell? ⟨w.heap.size,1,none⟩=some (.slice a l.length cp):=by rw [← hw1];simp
 rw [hw1] at hE0 hW ⊢
 clear hw1
 go_loop [3] (fun iv => ∃ k : Nat,k≤l.length∧k≤5∧iv = .int .i64 k∧Hid ((l.take k).any wideS=false)) (fun iv=>l.length - (intOf iv).toNat)
 case atStart=>exact ⟨0,Nat.zero_le _,by omega,rfl,by simp [Hid]⟩
 case round =>
  obtain ⟨k,hk,hk4,rfl,hN⟩:=hrel
  by_cases hlt : k < l.length
  ·have hlt' : decide ((k : Int) < (l.length : Int))=true:=decide_eq_true (by omega)
   by_cases h4 : k≤4
   ·have h4' : decide ((k : Int)≤4)=true:=decide_eq_true (by omega)
    obtain ⟨x,hx⟩ : ∃ x,l[k]? = some x:=⟨l[k],by simp [hlt]⟩
    obtain ⟨b,off,sv,rfl,hbb,d0,hcl⟩:=hW.out.cell hx
    have hX:=Lib.hid hx
    obtain ⟨ca,ccp,rfl,hclc,hccm,-⟩:=hcl.form
    clear hx hbb
    by_cases h5 : 610 < x.length
    ·have h5' : Hid (decide (610 < x.length)=true):=Hid.mk (decide_eq_true (by omega))
     have hg:=Lib.hid (greatK_hit hX.out h4 (by simp [wideS,h5]))
     clear h5
     go_wp2_with fail
     refine (ref28_Great hcl).mono ?_
     rintro e wx ⟨rfl,rfl⟩
     rw [h5'.out]
     go_wp2
     go_ret
     exact ⟨by rw [hg.out] <;> rfl,hE0⟩
    ·have h5' : Hid (decide (610 < x.length)=false):=Hid.mk (decide_eq_false (by omega))
     have hN2:=Lib.hid (sany_take_succ hN.out hX.out (by simp [wideS,h5]))
     clear h5
     go_wp2_with fail
     refine (ref28_Great hcl).mono ?_
     rintro e wx ⟨rfl,rfl⟩
     rw [h5'.out]
     go_wp2
     go_round
     case rel=>exact ⟨k+1,by omega,by omega,by go_num,hN2.out⟩
     case measure=>simp [intOf];omega
   ·have h4' : decide ((k : Int)≤4)=false:=decide_eq_false (by omega)
    have h6 : decide ((4 : Int) < (l.length : Int))=true:=decide_eq_true (by omega)
    have hg : Hid (greatK l=true):=Hid.mk (by rw [greatK,decide_eq_true (by omega : 4 < l.length),Bool.or_true])
    go_wp2
    go_ret
    exact ⟨by rw [hg.out] <;> rfl,hE0⟩
  ·have hlt' : decide ((k : Int) < (l.length : Int))=false:=decide_eq_false (by omega)
   have hkl : k=l.length:=by omega
   subst hkl
   by_cases h4 : 4 < l.length
   ·have h6 : decide ((4 : Int) < (l.length : Int))=true:=decide_eq_true (by omega)
    have hg : Hid (greatK l=true):=Hid.mk (by rw [greatK,decide_eq_true h4,Bool.or_true])
    go_wp2
    go_ret
    exact ⟨by rw [hg.out] <;> rfl,hE0⟩
   ·have h6 : decide ((4 : Int) < (l.length : Int))=false:=decide_eq_false (by omega)
    have hg : Hid (greatK l=false):=Hid.mk (by
     rw [greatK,decide_eq_false h4,Bool.or_false,List.take_of_length_le (by omega)]
     have:=hN.out
     rwa [List.take_length] at this)
    go_wp2
    go_ret
    exact ⟨by rw [hg.out] <;> rfl,hE0⟩
theorem stkErr_bad {x : Stk} (h : okK x=false) : stkErr x=8:=by simp [stkErr,h]
theorem stkErr_ok {x : Stk} (h : okK x=true) : stkErr x=0:=by simp [stkErr,h]
theorem okK_cell {x : Stk} {k : Nat} {s : List Item} (hx : x.cells[k]? = some s) (hs : okS s=false) : okK x=false:=by
 have : x.cells.all okS=false:=all_miss hx hs
 simp [okK,this]
set_option maxHeartbeats 1600000 in
theorem stacks_Check {l : List (List Item)} {num : Int} {s : Value} {w : World} (hl : Sts w s l) :
  Calls Tryd.prog 53 #[.agg #[.int .i64 num,s]] w fun e w'=>e = .returned (.int .i64 (stkErr ⟨num,l⟩))∧Ext w w':=by
 have hE0:=(Ext.refl w).alloc (.cells #[.int .i64 num,s] 44)
 have hl0:=hl.ext hE0
 obtain ⟨a,cp,rfl,hlc,hcm,-⟩:=hl.form
 unfold maxLen at hcm
 have hW:=Lib.hid hl0
 clear hl hl0
 have hcase : (okK ⟨num,l⟩=false∧(decide (num < 0)=true∨(decide (num < 0)=false∧(decide (1000000 < num)=true∨(decide (1000000 < num)=false∧(((l.length : Int) == 0)=true∨(((l.length : Int) == 0)=false∧decide ((2 : Int) < (l.length : Int))=true)))))))∨(decide (num < 0)=false∧decide (1000000 < num)=false∧((l.length : Int) == 0)=false∧decide ((2 : Int) < (l.length : Int))=false∧okK ⟨num,l⟩=l.all okS):=by
  unfold okK inB
  simp only [decide_eq_true_eq,decide_eq_false_iff_not,beq_iff_eq,beq_eq_false_iff_ne]
  by_cases h : 0≤num∧num≤1000000∧1≤l.length∧l.length≤2
  ·right
   refine ⟨by omega,by omega,by omega,by omega,?_⟩
   simp [h.1,h.2.1,h.2.2.1,h.2.2.2]
  ·left
   refine ⟨?_,by omega⟩
   by_cases h0 : 0≤num
   ·by_cases h1 : num≤1000000
    ·by_cases h2 : 1≤l.length
     ·have h3 : ¬ l.length≤2:=fun h3=>h ⟨h0,h1,h2,h3⟩
      simp [h3]
     ·simp [h2]
    ·simp [h1]
   ·simp [h0]
 rcases hcase with ⟨hbad,g1 | ⟨g1,g2 | ⟨g2,g3 | ⟨g3,g4⟩⟩⟩⟩ | ⟨g1,g2,g3,g4,hall⟩
 iterate 4
  ·have hres:=Lib.hid (stkErr_bad hbad)
   clear hbad
   go_enter Tryd.func53,Tryd.ntmps53
   go_wp2
   go_ret
   exact ⟨by rw [hres.out] <;> rfl,hE0⟩
 ·have hall':=Lib.hid hall
  clear hall
  go_enter Tryd.func53,Tryd.ntmps53
  go_wp2
  obtain ⟨w1,hw1⟩ : ∃ w1,w.alloc (.cells #[.int .i64 num,.slice a l.length cp] 44)=w1:=⟨_,rfl⟩
  have b2 : w1.cell? ⟨w.heap.size,1,none⟩=some (.slice a l.length cp):=by rw [← hw1];simp
  rw [hw1] at hE0 hW ⊢
  clear hw1
  go_loopw [29] (fun iv wr => ∃ k : Nat,k≤l.length∧iv = .int .i64 k∧Ext w1 wr∧Hid ((l.take k).all okS=true)) (fun iv _=>l.length - (intOf iv).toNat)
  case atStart=>exact ⟨0,Nat.zero_le _,rfl,Ext.refl _,by simp [Hid]⟩
  case round =>
   obtain ⟨k,hk,rfl,hE,hN⟩:=hrel
   have e2:=hE.cell b2
   by_cases hlt : k < l.length
   ·obtain ⟨x,hx⟩ : ∃ x,l[k]? = some x:=⟨l[k],by simp [hlt]⟩
    obtain ⟨b,off,sv,rfl,hbb,d0,hcl⟩:=(hW.out.ext hE).cell hx
    have hX:=Lib.hid hx
    obtain ⟨ca,ccp,rfl,-⟩:=hcl.form
    have hC:=Lib.hid hcl
    clear hx hbb hcl
    cases hok : okS x
    ·have hc : Hid (chk x=8):=Hid.mk (by simp [chk,hok])
     have hres:=Lib.hid (stkErr_bad (okK_cell (x:=⟨num,l⟩) hX.out hok))
     clear hok
     go_wp2_with fail
     refine (items_Check hC.out).mono ?_
     rintro e w2 ⟨rfl,hE2⟩
     rw [hc.out]
     go_wp2
     go_ret
     exact ⟨by rw [hres.out] <;> rfl,(hE0.trans hE).trans hE2⟩
    ·have hc : Hid (chk x=0):=Hid.mk (by simp [chk,hok])
     have hN2:=Lib.hid (all_take_succ hN.out hX.out hok)
     clear hok
     go_wp2_with fail
     refine (items_Check hC.out).mono ?_
     rintro e w2 ⟨rfl,hE2⟩
     rw [hc.out]
     go_wp2
     go_roundw
     case rel=>exact ⟨k+1,by omega,by go_num,hE.trans hE2,hN2.out⟩
     case measure=>simp [intOf];omega
   ·have hkl : k=l.length:=by omega
    subst hkl
    have hres : Hid (stkErr ⟨num,l⟩=0):=Hid.mk (stkErr_ok (by
     rw [hall'.out]
     have:=hN.out
     rwa [List.take_length] at this))
    go_wp2
    go_ret
    exact ⟨by rw [hres.out] <;> rfl,hE0.trans hE⟩
set_option maxHeartbeats 1600000 in
theorem ref33_Check {l : List (List Item)} {num : Int} {s : Value} {w : World} (hl : Sts w s l) :
  Calls Tryd.prog 87 #[.agg #[.int .i64 num,s]] w fun e w'=>e = .returned (.int .i64 (stkErr ⟨num,l⟩))∧Ext w w':=by
 have hE0:=(Ext.refl w).alloc (.cells #[.int .i64 num,s] 44)
 have hl0:=hl.ext hE0
 obtain ⟨a,cp,rfl,hlc,hcm,-⟩:=hl.form
 unfold maxLen at hcm
 have hW:=Lib.hid hl0
 clear hl hl0
 have hcase : (okK ⟨num,l⟩=false∧(inB num=false∨(inB num=true∧(decide ((l.length : Int) < 1)=true∨(decide ((l.length : Int) < 1)=false∧decide ((2 : Int) < (l.length : Int))=true)))))∨(inB num=true∧decide ((l.length : Int) < 1)=false∧decide ((2 : Int) < (l.length : Int))=false∧okK ⟨num,l⟩=l.all okS):=by
  unfold okK
  simp only [decide_eq_true_eq,decide_eq_false_iff_not]
  cases hn : inB num
  ·left;simp
  ·by_cases h : 1≤l.length∧l.length≤2
   ·right
    refine ⟨rfl,by omega,by omega,?_⟩
    simp [h.1,h.2]
   ·left
    refine ⟨?_,.inr ⟨rfl,by omega⟩⟩
    by_cases h2 : 1≤l.length
    ·have h3 : ¬ l.length≤2:=fun h3=>h ⟨h2,h3⟩
     simp [h3]
    ·simp [h2]
 rcases hcase with ⟨hbad,g1 | ⟨g1,g2 | ⟨g2,g3⟩⟩⟩ | ⟨g1,g2,g3,hall⟩
 iterate 3
  ·replace g1:=Lib.hid g1
   have hres:=Lib.hid (stkErr_bad hbad)
   clear hbad
   go_enter Tryd.func87,Tryd.ntmps87
   go_wp2_with fail
   refine (ref28_In _ _).mono ?_
   rintro e wx ⟨rfl,rfl⟩
   rw [g1.out]
   go_wp2
   go_ret
   exact ⟨by rw [hres.out] <;> rfl,hE0⟩
 ·replace g1:=Lib.hid g1
  have hall':=Lib.hid hall
  clear hall
  go_enter Tryd.func87,Tryd.ntmps87
  go_wp2_with fail
  refine (ref28_In _ _).mono ?_
  rintro e wx ⟨rfl,rfl⟩
  rw [g1.out]
  go_wp2
  obtain ⟨w1,hw1⟩ : ∃ w1,w.alloc (.cells #[.int .i64 num,.slice a l.length cp] 44)=w1:=⟨_,rfl⟩
  have b2 : w1.cell? ⟨w.heap.size,1,none⟩=some (.slice a l.length cp):=by rw [← hw1];simp
  rw [hw1] at hE0 hW ⊢
  clear hw1
  go_loopw [3] (fun iv wr => ∃ k : Nat,k≤l.length∧iv = .int .i64 k∧Ext w1 wr∧Hid ((l.take k).all okS=true)) (fun iv _=>l.length - (intOf iv).toNat)
  case atStart=>exact ⟨0,Nat.zero_le _,rfl,Ext.refl _,by simp [Hid]⟩
  case round =>
   obtain ⟨k,hk,rfl,hE,hN⟩:=hrel
   have e2:=hE.cell b2
   by_cases hlt : k < l.length
   ·obtain ⟨x,hx⟩ : ∃ x,l[k]? = some x:=⟨l[k],by simp [hlt]⟩
    obtain ⟨b,off,sv,rfl,hbb,d0,hcl⟩:=(hW.out.ext hE).cell hx
    have hX:=Lib.hid hx
    obtain ⟨ca,ccp,rfl,-⟩:=hcl.form
    have hC:=Lib.hid hcl
    clear hx hbb hcl
    cases hok : okS x
    ·have hc : Hid (chk x=8):=Hid.mk (by simp [chk,hok])
     have hres:=Lib.hid (stkErr_bad (okK_cell (x:=⟨num,l⟩) hX.out hok))
     clear hok
     go_wp2_with fail
     refine (ref28_Check hC.out).mono ?_
     rintro e w2 ⟨rfl,hE2⟩
     rw [hc.out]
     go_wp2
     go_ret
     exact ⟨by rw [hres.out] <;> rfl,(hE0.trans hE).trans hE2⟩
    ·have hc : Hid (chk x=0):=Hid.mk (by simp [chk,hok])
     have hN2:=Lib.hid (all_take_succ hN.out hX.out hok)
     clear hok
     go_wp2_with fail
     refine (ref28_Check hC.out).mono ?_
     rintro e w2 ⟨rfl,hE2⟩
     rw [hc.out]
     go_wp2
     go_roundw
     case rel=>exact ⟨k+1,by omega,by go_num,hE.trans hE2,hN2.out⟩
     case measure=>simp [intOf];omega
   ·have hkl : k=l.length:=by omega
    subst hkl
    have hres : Hid (stkErr ⟨num,l⟩=0):=Hid.mk (stkErr_ok (by
     rw [hall'.out]
     have:=hN.out
     rwa [List.take_length] at this))
    go_wp2
    go_ret
    exact ⟨by rw [hres.out] <;> rfl,hE0.trans hE⟩
end Go.Proofs.YtnplphcnagooeaaDoor
