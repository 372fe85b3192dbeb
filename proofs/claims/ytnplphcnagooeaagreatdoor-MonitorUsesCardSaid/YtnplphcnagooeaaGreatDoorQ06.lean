/- Several texts in one: CelW5, CelW6, CelW7, CelW8, MonA, MonB, StkB, MonC1. -/
import Derived.Test.YtnplphcnagooeaaGreatDoorQ05
import Derived.Deep.RegionWith
import Derived.Deep.DeepCutAuto
import Derived.Laws.MakeOwn
import Derived.Laws.OwnMore
import Derived.Deep.RegionLaw
import Derived.RegionTactic
import Derived.Test.YtnplphcnagooeaaGreatDoorQ03
import Derived.Lib.AppendZeros
import Derived.LoopIn
import Derived.Deep.QuietTactic
import Derived.BigQuiet
import Derived.Deep.RegionHeld3
import Derived.Test.YtnplphcnagooeaaGreatDoorQ02
/- Contracts: copies of slices of cells and of allocations, clone. -/
namespace Go.Proofs.YtnplphcnagooeaaGreatDoor
set_option maxRecDepth 100000
open Go.RowKit
theorem Cell.infoE : ∃ i z,Tryz.prog.info? 78=some i∧i.zero=some z∧i.size=5∧z.cells.size=5∧i.bytes=40:=by
 have h : (Tryz.prog.info? 78).map (fun i=>(i.zero.map (fun z=>z.cells.size),i.size,i.bytes))=some (some 5,5,40):=by kernel_rfl
 cases hi : Tryz.prog.info? 78 with
 | none=>rw [hi] at h;simp at h
 | some i =>
  rw [hi] at h
  simp only [Option.map_some,Option.some.injEq,Prod.mk.injEq] at h
  obtain ⟨h1,h2,h3⟩:=h
  cases hz : i.zero with
  | none=>rw [hz] at h1;simp at h1
  | some z =>
   rw [hz] at h1
   exact ⟨i,z,rfl,hz,h2,by simpa using h1,h3⟩
theorem Alloc.infoE : ∃ i z,Tryz.prog.info? 74=some i∧i.zero=some z∧i.size=3∧z.cells.size=3∧i.bytes=40:=by
 have h : (Tryz.prog.info? 74).map (fun i=>(i.zero.map (fun z=>z.cells.size),i.size,i.bytes))=some (some 3,3,40):=by kernel_rfl
 cases hi : Tryz.prog.info? 74 with
 | none=>rw [hi] at h;simp at h
 | some i =>
  rw [hi] at h
  simp only [Option.map_some,Option.some.injEq,Prod.mk.injEq] at h
  obtain ⟨h1,h2,h3⟩:=h
  cases hz : i.zero with
  | none=>rw [hz] at h1;simp at h1
  | some z =>
   rw [hz] at h1
   exact ⟨i,z,rfl,hz,h2,by simpa using h1,h3⟩
def RetSl (e k : Nat) (w : World) (n : Nat) (xs : List Value) (en : Ending) (w' : World) : Prop := ∃ v,en = .returned v∧Own w' w.heap.size e k v n xs∧Ext w w'
set_option maxHeartbeats 400000 in
theorem clone_Cells {n : Nat} {xs : List Value} {v : Value} {w : World} (hl : Sl w 5 v n xs) (h1 : ∀ u ∈ xs,u.oneCell'=true) (hs : n≤1000000) : Calls Tryz.prog 62 #[v] w (RetSl 78 5 w n xs):=by
 obtain ⟨i,z,hi,hz,hi3,hz3,hby⟩:=Cell.infoE
 obtain ⟨a,cp,rfl,hlc,hcm,hn⟩:=hl.slice_form
 cases a with
 | none =>
  have hcp:=hn rfl
  subst hcp
  obtain rfl : n=0:=by omega
  obtain rfl:=hl.zero
  have hnil : ∀ w,(binOp .eql 31 (.slice none 0 0) (.slice none 0 0)).run Tryz.prog w = .ok (.bool true) w:=fun w=>Lib.run_eql_slice_nil w 31 78 none 0 0 0 0 Tryz.underlying31
  go_enter Tryz.func62,Tryz.ntmps62
  go_wp2
  go_ret
  exact ⟨_,rfl,Own.nil _ _ _ _,Ext.refl _⟩
 | some ad =>
  have hE:=(Ext.refl w).alloc (.cells #[] 78)
  have hl':=hl.ext hE
  have hO:=Own.made' w w.heap.size 78 5 (Nat.le_refl _)
  have hz:=Lib.hid hz
  have hi3:=Lib.hid hi3
  have hz3:=Lib.hid hz3
  have hby:=Lib.hid hby
  have hi:=Lib.hid hi
  have hnil : ∀ w,(binOp .eql 31 (.slice (some ad) n cp) (.slice none 0 0)).run Tryz.prog w = .ok (.bool false) w:=fun w=>Lib.run_eql_slice_nil w 31 78 (some ad) n cp 0 0 Tryz.underlying31
  go_enter Tryz.func62,Tryz.ntmps62
  go_wp2_with (at_builtin;refine Hid.out ?_)
  refine Hid.mk ?_
  refine wpList_append_any rfl _ _ 31 31 rfl rfl rfl Tryz.underlying31 Tryz.underlying31 hi.out hz.out hi3.out hz3.out hO hl' h1 (by simp [maxLen];omega) (by rw [hby.out];omega) hE.size ?_
  intro v' w' hO' hK _ _
  go_wp2
  go_ret
  simp only [Nat.zero_add,List.nil_append] at hO'
  exact ⟨_,rfl,hO',(Below.trans (Below.alloc (Below.refl _ w) (Nat.le_refl _) _) hK.below : Below w.heap.size w w')⟩
set_option maxHeartbeats 400000 in
theorem clone_Allocs {n : Nat} {xs : List Value} {v : Value} {w : World} (hl : Sl w 3 v n xs) (h1 : ∀ u ∈ xs,u.oneCell'=true) (hs : n≤1000000) : Calls Tryz.prog 88 #[v] w (RetSl 74 3 w n xs):=by
 obtain ⟨i,z,hi,hz,hi3,hz3,hby⟩:=Alloc.infoE
 obtain ⟨a,cp,rfl,hlc,hcm,hn⟩:=hl.slice_form
 cases a with
 | none =>
  have hcp:=hn rfl
  subst hcp
  obtain rfl : n=0:=by omega
  obtain rfl:=hl.zero
  have hnil : ∀ w,(binOp .eql 22 (.slice none 0 0) (.slice none 0 0)).run Tryz.prog w = .ok (.bool true) w:=fun w=>Lib.run_eql_slice_nil w 22 74 none 0 0 0 0 Tryz.underlying22
  go_enter Tryz.func88,Tryz.ntmps88
  go_wp2
  go_ret
  exact ⟨_,rfl,Own.nil _ _ _ _,Ext.refl _⟩
 | some ad =>
  have hE:=(Ext.refl w).alloc (.cells #[] 74)
  have hl':=hl.ext hE
  have hO:=Own.made' w w.heap.size 74 3 (Nat.le_refl _)
  have hz:=Lib.hid hz
  have hi3:=Lib.hid hi3
  have hz3:=Lib.hid hz3
  have hby:=Lib.hid hby
  have hi:=Lib.hid hi
  have hnil : ∀ w,(binOp .eql 22 (.slice (some ad) n cp) (.slice none 0 0)).run Tryz.prog w = .ok (.bool false) w:=fun w=>Lib.run_eql_slice_nil w 22 74 (some ad) n cp 0 0 Tryz.underlying22
  go_enter Tryz.func88,Tryz.ntmps88
  go_wp2_with (at_builtin;refine Hid.out ?_)
  refine Hid.mk ?_
  refine wpList_append_any rfl _ _ 22 22 rfl rfl rfl Tryz.underlying22 Tryz.underlying22 hi.out hz.out hi3.out hz3.out hO hl' h1 (by simp [maxLen];omega) (by rw [hby.out];omega) hE.size ?_
  intro v' w' hO' hK _ _
  go_wp2
  go_ret
  simp only [Nat.zero_add,List.nil_append] at hO'
  exact ⟨_,rfl,hO',(Below.trans (Below.alloc (Below.refl _ w) (Nat.le_refl _) _) hK.below : Below w.heap.size w w')⟩
end Go.Proofs.YtnplphcnagooeaaGreatDoor

/- Contracts: clone of a memory. -/
namespace Go.Proofs.YtnplphcnagooeaaGreatDoor
set_option maxRecDepth 100000
open Go.RowKit
def OwnC (w : World) (B : Nat) (s : Value) (a : Alloc) : Prop:=Own w B 78 5 s a.cells.length (a.cells.flatMap Cell.row)
theorem OwnC.read {w : World} {B : Nat} {s : Value} {a : Alloc} (h : OwnC w B s a) : Cls w s a.cells:=Own.sl h
theorem OwnC.keep {w w' : World} {S : Nat→Prop} {B : Nat} {s : Value} {a : Alloc} (h : OwnC w B s a) (hE : ExtBut S w w') (hS : ∀ g,s.ownBlock=some g → ¬ S g) : OwnC w' B s a:=ExtBut.own h hE hS
abbrev OM (w : World) (B : Nat) (v : Value) (vs : List Value) (l : List Alloc) : Prop:=OTb arow 74 3 OwnC w B v vs l
def RetMem (w : World) (l : List Alloc) (next : Int) (en : Ending) (w' : World) : Prop := ∃ v vs,en = .returned (.agg #[v,.int .i64 next])∧OM w' w.heap.size v vs l∧Ext w w'
theorem OM.read {w : World} {B : Nat} {v : Value} {vs : List Value} {l : List Alloc} (h : OM w B v vs l) : Als w v l:=⟨vs,h.inner.mono fun _ _ h=>OwnC.read h,h.outer.sl⟩
theorem OwnC.lt {w : World} {B : Nat} {s : Value} {a : Alloc} (h : OwnC w B s a) : ∀ g,s.ownBlock=some g→B≤g∧g < w.heap.size:=fun _ hg=>Own.lt h hg
theorem OwnC.mono {w : World} {B B' : Nat} {s : Value} {a : Alloc} (h : OwnC w B s a) (hB : B'≤B) : OwnC w B' s a:=Own.mono h hB
theorem OwnC.ext {w w' : World} {B : Nat} {s : Value} {a : Alloc} (h : OwnC w B s a) (hE : Ext w w') : OwnC w' B s a:=Own.ext h hE
theorem Cls.one' {w : World} {v : Value} {l : List Cell} (h : Cls w v l) : v.oneCell'=true:=by
 obtain ⟨a,cap,rfl,_⟩:=h.form
 rfl
theorem All2.oneCells {w : World} {vs : List Value} {l : List Alloc} (hin : All2 (fun s a=>Cls w s a.cells) vs l) : ∀ s ∈ vs,s.oneCell'=true:=fun s hs=>by
 obtain ⟨i,hi⟩:=List.mem_iff_getElem?.1 hs
 obtain ⟨x,_,hc⟩:=hin.get' hi
 exact hc.one'
section
variable {w w' wx : World} {B B' : Nat} {v v' s : Value} {vs : List Value} {l : List Alloc} {a : Alloc} {S : Nat→Prop}
theorem OM.inner_lt (h : OM w B v vs l) : ∀ s ∈ vs,∀ g,s.ownBlock=some g→B≤g∧g < w.heap.size:=OTb.inner_lt (RO:=OwnC) (fun h=>OwnC.lt h) h
theorem OM.but (h : OM w B v vs l) (hE : ExtBut S w w') (hv : ∀ g,v.ownBlock=some g → ¬ S g) (hs : ∀ s ∈ vs,∀ g,s.ownBlock=some g → ¬ S g) : OM w' B v vs l:=OTb.but (RO:=OwnC) (fun h=>OwnC.keep h) h hE hv hs
theorem OM.ext (h : OM w B v vs l) (hE : Ext w w') : OM w' B v vs l:=OTb.ext (RO:=OwnC) (fun h=>OwnC.keep h) h hE
theorem OM.mono (h : OM w B v vs l) (hB : B'≤B) : OM w B' v vs l:=OTb.mono (RO:=OwnC) (fun h=>OwnC.mono h) h hB
theorem OM.push (h : OM w B v vs l) (hE : Ext w wx) (hR : OwnC wx B s a) (hs : ∀ g,s.ownBlock=some g→w.heap.size≤g) (hO : Own w' B 74 3 v' (l.length+1) (trows arow vs l ++ arow s a)) (hK : Keeps wx w' B v)
  (hb : v'.ownBlock=v.ownBlock ∨ ∃ g,v'.ownBlock=some g∧wx.heap.size≤g) : OM w' B v' (vs ++ [s]) (l ++ [a]):=OTb.push (RO:=OwnC) (fun h=>OwnC.keep h) (fun h=>OwnC.lt h) h hE hR hs hO hK hb
end
theorem OM.cell {w : World} {B : Nat} {a : Option Addr} {n cap : Nat} {vs : List Value} {l : List Alloc} (h : OM w B (.slice a n cap) vs l) {i : Nat} {x : Alloc} (hx : l[i]? = some x) :
  ∃ g s,a=some ⟨g,0,none⟩∧B≤g∧g < w.heap.size∧vs[i]? = some s∧OwnC w B s x∧(w.cell? ⟨g,i * 3,none⟩=some (.int .i64 x.num)∧w.cell? ⟨g,i * 3+1,none⟩=some (.bool x.live)∧w.cell? ⟨g,i * 3+2,none⟩=some s)∧(∀ j,w.frozen? ⟨g,j,none⟩=false)∧(∀ b,s.ownBlock=some b→B≤b∧b < w.heap.size∧b≠g):=by
 have hi : i < l.length:=(List.getElem?_eq_some_iff.1 hx).1
 obtain ⟨s,hs,hc⟩:=h.inner.get hx
 obtain ⟨g,cp,e,hnc,hcm,hg1,hg2⟩:=h.outer.form (by omega)
 simp only [Value.slice.injEq] at e
 obtain ⟨rfl,rfl,rfl⟩:=e
 have t : ∀ j,j < 3→w.cell? ⟨g,i * 3+j,none⟩=(arow s x)[j]? := fun j hj=>(h.outer.cellAt (i * 3+j) (by omega)).trans (trows_get arow arow_len hs hx hj)
 exact ⟨g,s,rfl,hg1,hg2,hs,hc,⟨t 0 (by omega),t 1 (by omega),t 2 (by omega)⟩,fun j=>h.outer.frozen j,fun b e=>⟨(OwnC.lt hc b e).1,(OwnC.lt hc b e).2,fun e2=>h.far s (List.mem_of_getElem? hs) b e (by rw [e2];rfl)⟩⟩
def small (l : List Alloc) : Prop:=l.length≤1000000 ∧ ∀ a ∈ l,a.cells.length≤1000000
end Go.Proofs.YtnplphcnagooeaaGreatDoor

/- Contracts: Twin of the reference of layer 26. -/
namespace Go.Proofs.YtnplphcnagooeaaGreatDoor
set_option maxRecDepth 100000
open Go.RowKit
set_option maxHeartbeats 1600000 in
theorem ref26_Twin {l : List Alloc} {next : Int} {s : Value} {w : World} (hl : Als w s l) (hs : small l) :
  Calls Tryz.prog 37 #[.agg #[s,.int .i64 next]] w (RetMem w l next):=by
 obtain ⟨ci,cz,hci,hcz,hci3,hcz3,hcby⟩:=Cell.infoE
 obtain ⟨ai,az,hai,haz,hai3,haz3,haby⟩:=Alloc.infoE
 have hci:=Lib.hid hci;have hcz:=Lib.hid hcz;have hci3:=Lib.hid hci3;have hcz3:=Lib.hid hcz3;have hcby:=Lib.hid hcby
 have hai:=Lib.hid hai;have haz:=Lib.hid haz;have hai3:=Lib.hid hai3;have haz3:=Lib.hid haz3;have haby:=Lib.hid haby
 have hE0:=(((Ext.refl w).alloc (.cells #[s,.int .i64 next] 24)).alloc (.cells #[.slice none 0 0,.int .i64 0] 24)).alloc (.cells #[.slice none 0 0,.int .i64 next] 24)
 have hform:=hl.form
 obtain ⟨a,cp,rfl,hlc,hcm,-⟩:=hform
 unfold maxLen at hcm
 have hL:=Lib.hid hl
 have hsm:=Lib.hid hs.1
 have bM:=((Box.new w 24 #[.slice a l.length cp,.int .i64 next]).ext ((Ext.refl _).alloc (.cells #[.slice none 0 0,.int .i64 0] 24))).ext ((Ext.refl _).alloc (.cells #[.slice none 0 0,.int .i64 next] 24))
 have bR:=(Box.new (w.alloc (.cells #[.slice a l.length cp,.int .i64 next] 24)) 24 #[.slice none 0 0,.int .i64 0]).ext ((Ext.refl _).alloc (.cells #[.slice none 0 0,.int .i64 next] 24))
 have bO:=Box.new ((w.alloc (.cells #[.slice a l.length cp,.int .i64 next] 24)).alloc (.cells #[.slice none 0 0,.int .i64 0] 24)) 24 #[.slice none 0 0,.int .i64 next]
 simp only [World.size_alloc] at bR bO
 have hH:=Lib.hid (And.intro bM (And.intro bR bO))
 clear bM bR bO hl
 go_enter Tryz.func37,Tryz.ntmps37
 go_wp2
 obtain ⟨w1,hw1⟩ : ∃ w1,((w.alloc (.cells #[.slice a l.length cp,.int .i64 next] 24)).alloc (.cells #[.slice none 0 0,.int .i64 0] 24)).alloc (.cells #[.slice none 0 0,.int .i64 next] 24)=w1:=⟨_,rfl⟩
 have hsz1 : w1.heap.size=w.heap.size+3:=by rw [← hw1];simp
 rw [hw1] at hE0 hH ⊢
 clear hw1
 have hsz1:=Lib.hid hsz1
 go_loopw [4] (fun iv wr => ∃ (k : Nat) (v : Value) (vs : List Value),k≤l.length∧iv = .int .i64 k∧Box wr (w.heap.size+1+1) 24 #[v,.int .i64 next]∧OM wr w1.heap.size v vs (l.take k)∧ExtBut (· = w.heap.size+1+1) w1 wr) (fun iv _=>l.length - (intOf iv).toNat)
 case atStart=>exact ⟨0,_,[],Nat.zero_le _,rfl,hH.out.2.2,OTb.nil _ _,ExtBut.refl _ _⟩
 case round =>
  obtain ⟨k,v,vs,hk,rfl,bO,hT,hX⟩:=hrel
  have bM:=hH.out.1.but hX (by omega)
  have bR:=hH.out.2.1.but hX (by omega)
  have hF : Ext w wr:=ExtBut.ext hE0 hX (fun x h=>by omega)
  have hlk : (l.take k).length=k:=by rw [List.length_take];omega
  have hOv:=hT.outer
  rw [hlk] at hOv
  obtain ⟨av,cv,rfl,hcv1,hcv2,-⟩:=hOv.sl.slice_form
  unfold maxLen at hcv2
  have m0 : wr.cell? ⟨w.heap.size,0,none⟩=some (.slice a l.length cp):=bM.cell 0
  have o0 : wr.cell? ⟨w.heap.size+1+1,0,none⟩=some (.slice av k cv):=bO.cell 0
  have hBl:=bO.lt
  by_cases hlt : k < l.length
  ·obtain ⟨x,hx⟩ : ∃ x,l[k]? = some x:=⟨l[k],by simp [hlt]⟩
   obtain ⟨b,off,sv,rfl,hbb,d0,d1,d2,hcl⟩:=(hL.out.ext hF).cell hx
   obtain ⟨ca,ccp,rfl,hclc,hccm,-⟩:=hcl.form
   have hxs : x.cells.length≤1000000:=hs.2 x (List.mem_of_getElem? hx)
   have hE3:=((Ext.refl wr).alloc (.cells #[.int .i64 x.num,.bool x.live,.slice ca x.cells.length ccp] 74)).alloc (.cells #[] 78)
   have bX:=(Box.new wr 74 #[.int .i64 x.num,.bool x.live,.slice ca x.cells.length ccp]).ext ((Ext.refl _).alloc (.cells #[] 78))
   have hOn:=Own.made' (wr.alloc (.cells #[.int .i64 x.num,.bool x.live,.slice ca x.cells.length ccp] 74)) (wr.heap.size+1) 78 5 (by simp)
   rw [World.size_alloc] at hOn
   have hA:=Lib.hid (And.intro (hcl.ext hE3) (And.intro bX (And.intro hOn (And.intro hx (And.intro hT (And.intro hX (And.intro hOv (And.intro bO hlk))))))))
   clear hcl bX hOn hx hT hX hOv bO hlk bM bR hs
   go_wp2_with (at_builtin;refine Hid.out ?_)
   refine Hid.mk ?_
   refine wpList_append_any rfl _ _ 31 31 rfl rfl rfl Tryz.underlying31 Tryz.underlying31 hci.out hcz.out hci3.out hcz3.out hA.out.2.2.1 hA.out.1 (Cell.one x.cells) (by simp [maxLen];omega) (by rw [hcby.out];omega) (by simp) ?_
   intro sn w4 hOn hKn _ _
   simp only [Nat.zero_add,List.nil_append] at hOn
   have hX4:=ExtBut.of_keeps hKn
   have hE4 : Ext wr w4:=ExtBut.ext hE3 hX4 (fun y h=>by have h' : some (wr.heap.size+1)=some y:=h;cases h';omega)
   have bX4:=hA.out.2.1.but hX4 (fun h=>by have h' : some (wr.heap.size+1)=some wr.heap.size:=h;simp at h')
   have hslt:=fun g e=>hOn.lt (g:=g) e
   obtain ⟨an,cn,rfl,hcn,hcn2,-⟩:=hOn.sl.slice_form
   have hE5:=Ext.setCell hE4 (p:=⟨wr.heap.size,2,none⟩) (Nat.le_refl _) (.slice an x.cells.length cn)
   have bX5:=bX4.set 2 (.slice an x.cells.length cn)
   have hO5:=ExtBut.own hOn (ExtBut.setCell w4 ⟨wr.heap.size,2,none⟩ (.slice an x.cells.length cn)) (fun g e h=>by have:=(hslt g e).1;have h' : g=wr.heap.size:=h;omega)
   have x0 : w4.cell? ⟨wr.heap.size,0,none⟩=some (.int .i64 x.num):=bX4.cell 0
   have x1 : w4.cell? ⟨wr.heap.size,1,none⟩=some (.bool x.live):=bX4.cell 1
   have x2 : w4.cell? ⟨wr.heap.size,2,none⟩=some (.slice ca x.cells.length ccp):=bX4.cell 2
   have xf:=bX4.frozen 2
   have hBx:=bX4.lt
   have o4:=hE4.cell o0
   have hE6:=hE5.alloc (.cells #[.int .i64 x.num,.bool x.live,.slice an x.cells.length cn] 74)
   have hB:=Lib.hid (And.intro hE6 (And.intro hO5 (And.intro hslt (And.intro bX5 hE4))))
   clear hOn hKn hX4 hE4 bX4 hE5 bX5 hO5 hE6
   go_wp2_with (at_builtin;refine Hid.out ?_)
   refine Hid.mk ?_
   have hS6 : Sl ((w4.setCell ⟨wr.heap.size,2,none⟩ (.slice an x.cells.length cn)).alloc (.cells #[.int .i64 x.num,.bool x.live,.slice an x.cells.length cn] 74)) 3 (.slice (some ⟨w4.heap.size,0,none⟩) 1 1) 1 (arow (.slice an x.cells.length cn) x):=by
    have:=(Own.lit' (B:=0) (e:=74) (k:=3) (w4.setCell ⟨wr.heap.size,2,none⟩ (.slice an x.cells.length cn)) #[.int .i64 x.num,.bool x.live,.slice an x.cells.length cn] 1 (Nat.zero_le _) (by simp [maxLen]) rfl).sl
    rw [World.size_setCell] at this
    exact this
   have hk6 : k≤1000000:=by have:=hsm.out;omega
   refine wpList_append_any rfl _ _ 22 22 rfl rfl rfl Tryz.underlying22 Tryz.underlying22 hai.out haz.out hai3.out haz3.out (hA.out.2.2.2.2.2.2.1.ext hB.out.1) hS6 (by simp [arow,Value.oneCell']) (by simp [maxLen];omega) (by rw [haby.out];omega) (Nat.le_trans hA.out.2.2.2.2.2.1.size hB.out.1.size) ?_
   intro v' w6 hOv hKv hbv _
   have hlk:=hA.out.2.2.2.2.2.2.2.2
   have hP : OM w6 w1.heap.size v' (vs ++ [.slice an x.cells.length cn]) (l.take k ++ [x]):=OM.push hA.out.2.2.2.2.1 hB.out.1 (OwnC.mono (OwnC.ext hB.out.2.1 ((Ext.refl _).alloc _)) (by have:=hA.out.2.2.2.2.2.1.size;omega)) (fun g e=>by have:=(hslt g e).1;omega) (by rw [hlk];exact hOv) hKv hbv
   have htk : l.take k ++ [x]=l.take (k+1):=by rw [List.take_add_one,hA.out.2.2.2.1];rfl
   rw [htk] at hP
   obtain ⟨av',cv',rfl,-⟩:=hOv.sl.slice_form
   have hvB:=fun g e=>(hA.out.2.2.2.2.2.2.1.lt (g:=g) e).1
   have hvB':=fun g e=>(hOv.lt (g:=g) e).1
   have hin':=OM.inner_lt hP
   have bO6:=(hA.out.2.2.2.2.2.2.2.1.ext hB.out.1).but (ExtBut.of_keeps hKv) (fun h=>by have:=hvB _ h;have:=hsz1.out;omega)
   have hX6:=((hA.out.2.2.2.2.2.1.trans (ExtBut.of_ext hB.out.1)).trans' (ExtBut.of_keeps hKv) (fun x hx h=>by have:=hvB _ h;omega)).trans (ExtBut.setCell w6 ⟨w.heap.size+1+1,0,none⟩ (.slice av' (k+1) cv'))
   have hP7:=OM.but hP (ExtBut.setCell w6 ⟨w.heap.size+1+1,0,none⟩ (.slice av' (k+1) cv')) (fun g e h=>by have:=hvB' g e;have:=hsz1.out;have h' : g=w.heap.size+1+1:=h;omega) (fun s hs g e h=>by have:=(hin' s hs g e).1;have:=hsz1.out;have h' : g=w.heap.size+1+1:=h;omega)
   have o6 : w6.cell? ⟨w.heap.size+1+1,0,none⟩=some (.slice av k cv):=bO6.cell 0
   have of6:=bO6.frozen 0
   have bO7:=bO6.set 0 (.slice av' (k+1) cv')
   have hR:=Lib.hid (And.intro bO7 (And.intro hP7 hX6))
   clear hvB hvB' hin' bO6 hX6 hP7 bO7 hP hOv hKv hbv hlk htk
   go_wp2
   go_roundw
   case rel=>exact ⟨k+1,_,_,by omega,by go_num,hR.out.1,hR.out.2.1,hR.out.2.2⟩
   case measure=>simp [intOf];omega
  ·have hkl : k=l.length:=by omega
   subst hkl
   have o1 : wr.cell? ⟨w.heap.size+1+1,1,none⟩=some (.int .i64 next):=bO.cell 1
   have r0 : wr.cell? ⟨w.heap.size+1,0,none⟩=some (.slice none 0 0):=bR.cell 0
   have r1 : wr.cell? ⟨w.heap.size+1,1,none⟩=some (.int .i64 0):=bR.cell 1
   have rf0:=bR.frozen 0
   have rf1:=bR.frozen 1
   rw [List.take_length] at hT
   have hT':=Lib.hid hT
   clear hT hlk hOv bM
   go_wp2
   have hY:=((ExtBut.setCell wr ⟨w.heap.size+1,0,none⟩ (.slice av l.length cv)).mono (S':=fun b=>b=w.heap.size+1) (fun x _ h=>h)).trans ((ExtBut.setCell _ ⟨w.heap.size+1,1,none⟩ (.int .i64 next)).mono (S':=fun b=>b=w.heap.size+1) (fun x _ h=>h))
   have hsz:=hsz1.out
   refine bodyPost_ret (v := .agg #[.slice av l.length cv,.int .i64 next]) (by simp [results,Tryz.f37,go_sem,r0,r1]) rfl ⟨_,vs,rfl,OM.mono (B':=w.heap.size) (OM.but hT'.out hY (fun g e h=>by have:=(hT'.out.outer.lt e).1;omega) (fun s hs g e h=>by have:=(OM.inner_lt hT'.out s hs g e).1;omega)) (by omega),ExtBut.ext hF hY (fun x h=>by omega)⟩
end Go.Proofs.YtnplphcnagooeaaGreatDoor

/- Contracts: Add of the program and of the reference. -/
namespace Go.Proofs.YtnplphcnagooeaaGreatDoor
set_option maxRecDepth 100000
open Go.RowKit
def FrM (w w' : World) (v : Value) (m : Mem) : Prop := ∀ w'' : World,ExtBut (fun b=>b < w.heap.size) w' w''→RdM w'' v m
theorem FrM.read {w w' : World} {v : Value} {m : Mem} (h : FrM w w' v m) : RdM w' v m:=h w' (ExtBut.refl _ _)
theorem FrM.ext {w w' w2 : World} {v : Value} {m : Mem} (h : FrM w w' v m) (hE : Ext w' w2) : FrM w w2 v m:=fun w'' h2=>h w'' ((ExtBut.of_ext hE).trans h2)
theorem FrM.but {w w' w2 : World} {v : Value} {m : Mem} {S : Nat→Prop} (h : FrM w w' v m) (hE : ExtBut S w' w2) (hS : ∀ b,S b→b < w.heap.size) : FrM w w2 v m:=fun w'' h2=>h w'' ((hE.mono fun b _ hb=>hS b hb).trans h2)
theorem FrM.mono {w0 w w' : World} {v : Value} {m : Mem} (h : FrM w w' v m) (hw : w0.heap.size≤w.heap.size) : FrM w0 w' v m:=fun w'' h2=>h w'' (h2.mono fun _ _ hb=>Nat.lt_of_lt_of_le hb hw)
theorem FrM.zero (w w' : World) : FrM w w' (.agg #[.slice none 0 0,.int .i64 0]) Mem.zero:=fun w'' _=>RdM.zero w''
theorem FrM.of_OM {w w' : World} {B : Nat} {v : Value} {vs : List Value} {l : List Alloc} {next : Int} (h : OM w' B v vs l) (hB : w.heap.size≤B) : FrM w w' (.agg #[v,.int .i64 next]) ⟨l,next⟩:=fun w'' h2 =>
 ⟨_,rfl,OM.read (OM.but h h2 (fun g e hl=>by have:=(h.outer.lt e).1;omega) (fun s hs g e hl=>by have:=(OM.inner_lt h s hs g e).1;omega))⟩
theorem small_of_ok {m : Mem} (h : m.ok=true) : small m.al:=by
 unfold Mem.ok okM at h
 simp only [Bool.and_eq_true,decide_eq_true_eq] at h
 refine ⟨by omega,?_⟩
 have hgo : ∀ (l : List Alloc) (least : Int),okAl m.next least l=true → ∀ a ∈ l,a.cells.length≤1000000:=by
  intro l
  induction l with
  | nil=>intro _ _ a ha;cases ha
  | cons x l ih =>
   intro least h a ha
   simp only [okAl,Bool.and_eq_true,decide_eq_true_eq] at h
   rcases List.mem_cons.1 ha with rfl | ha
   ·omega
   ·exact ih _ h.2 a ha
 exact hgo m.al 0 h.2
theorem ok_bounds {m : Mem} (h : m.ok=true) : m.al.length≤400∧0≤m.next∧m.next≤1000000:=by
 unfold Mem.ok okM inB at h
 simp only [Bool.and_eq_true,decide_eq_true_eq] at h
 omega
end Go.Proofs.YtnplphcnagooeaaGreatDoor

/- Monitors aas Lean data, and what a value in memory reads aas; what Check gives; no program in sight. (printed by gen/mon35.py) -/
namespace Go.Proofs.YtnplphcnagooeaaGreatDoor
set_option maxRecDepth 100000
open Go.RowKit
structure Mon where
 mem : Mem
 stks : List Stk
 run : List Int
 tag : Int
 call : Int
 deriving DecidableEq
def Mon.zero : Mon:=⟨Mem.zero,[],[],0,0⟩
def RdMon (w : World) (v : Value) (m : Mon) : Prop := ∃ sa ss sr,v = .agg #[sa,.int .i64 m.mem.next,ss,sr,.int .i64 m.tag,.int .i64 m.call]∧Als w sa m.mem.al∧Kts w ss m.stks∧Nts w sr m.run
theorem RdMon.ext {w w' : World} {v : Value} {m : Mon} (h : RdMon w v m) (he : Ext w w') : RdMon w' v m:=by
 obtain ⟨sa,ss,sr,rfl,h1,h2,h3⟩:=h
 exact ⟨sa,ss,sr,rfl,h1.ext he,h2.ext he,h3.ext he⟩
def FrMon (w w' : World) (v : Value) (m : Mon) : Prop := ∀ w'' : World,ExtBut (fun b=>b < w.heap.size) w' w''→RdMon w'' v m
theorem FrMon.read {w w' : World} {v : Value} {m : Mon} (h : FrMon w w' v m) : RdMon w' v m:=h w' (ExtBut.refl _ _)
theorem FrMon.ext {w w' w2 : World} {v : Value} {m : Mon} (h : FrMon w w' v m) (hE : Ext w' w2) : FrMon w w2 v m:=fun w'' h2=>h w'' ((ExtBut.of_ext hE).trans h2)
theorem FrMon.mono {w0 w w' : World} {v : Value} {m : Mon} (h : FrMon w w' v m) (hw : w0.heap.size≤w.heap.size) : FrMon w0 w' v m:=fun w'' h2=>h w'' (h2.mono fun _ _ hb=>Nat.lt_of_lt_of_le hb hw)
theorem okK_bounds {x : Stk} (h : okK x=true) : x.cells.length≤2 ∧ ∀ s ∈ x.cells,s.length≤600:=by
 unfold okK at h
 simp only [Bool.and_eq_true,decide_eq_true_eq] at h
 refine ⟨by omega,fun s hs => ?_⟩
 have:=List.all_eq_true.1 h.2 s hs
 simp only [okS,Bool.and_eq_true,decide_eq_true_eq] at this
 omega
def cntd (n : Int) : Bool:=decide (1≤n) && decide (n≤1000000)
def itM (tag call : Int) (x : Item) : Bool:=decide (x.t < tag) && decide (x.c < call)
def rowM (tag call : Int) (x : Stk) (a : Alloc) : Bool:=x.num == a.num && x.cells.length == a.cells.length && okK x && x.cells.flatten.all (fun it=>a.live && itM tag call it)
def headM (m : Mon) : Bool:=okM m.mem.al m.mem.next && m.stks.length == m.mem.al.length && cntd m.tag && cntd m.call && okR m.run
def lastM (m : Mon) : Bool:=m.run.length == 0 || decide (lastR m.run < m.call)
def rowAtM (m : Mon) (i : Nat) : Bool:=match m.stks[i]?,m.mem.al[i]? with
 | some x,some a=>rowM m.tag m.call x a
 | _,_=>false
def rowsM (m : Mon) : Bool:=(List.range m.mem.al.length).all (rowAtM m)
def okMon (m : Mon) : Bool:=headM m && lastM m && rowsM m
def monErr (m : Mon) : Int:=if okMon m then 0 else 8
theorem monErr_head {m : Mon} (h : headM m=false) : monErr m=8:=by simp [monErr,okMon,h]
theorem monErr_last {m : Mon} (h : lastM m=false) : monErr m=8:=by simp [monErr,okMon,h]
theorem monErr_row {m : Mon} {i : Nat} (hi : i < m.mem.al.length) (h : rowAtM m i=false) : monErr m=8:=by
 have : rowsM m=false:=by
  rw [Bool.eq_false_iff]
  intro hr
  have:=List.all_eq_true.1 hr i (List.mem_range.2 hi)
  rw [h] at this
  cases this
 simp [monErr,okMon,this]
theorem monErr_ok {m : Mon} (h1 : headM m=true) (h2 : lastM m=true) (h3 : ∀ i,i < m.mem.al.length→rowAtM m i=true) : monErr m=0:=by
 have : rowsM m=true:=List.all_eq_true.2 fun i hi=>h3 i (List.mem_range.1 hi)
 simp [monErr,okMon,h1,h2,this]
end Go.Proofs.YtnplphcnagooeaaGreatDoor

/- Contracts: slices.Grow of nil and slices.Concat at stacks of items. -/
namespace Go.Proofs.YtnplphcnagooeaaGreatDoor
set_option maxRecDepth 100000
open Go.RowKit
theorem wpList_append_zeros {P : Program} {w : World} {ops : Array Oper} {rest : List Oper} {o : Oper} {a : Act} {Q : Exit→Act→World→Prop} (hgd : o.guard=none) (s x : Operand) (t tn : TypeId)
  (ho : o.op = .call { callee := .builtin .append,args:=#[s,x],argTypes:=#[t,tn] }) {n : Nat} {kq kn : IntKind} (hs : a.eval s = .slice none 0 0) (hu : a.eval x = .int kq n) {e : TypeId} {i : TypeInfo} {z : Value} {k : Nat}
  (ht : P.underlying t=some (.slice e)) (htn : P.underlying tn=some (.int kn)) (hi : P.info? e=some i) (hz : i.zero=some z) (hik : i.size=k) (hzk : z.cells.size=k) (h0 : 0 < n) (hk : 0 < k) (h63 : n≤maxLen) (hbytes : n * i.bytes≤140737488355328)
  (h : ∀ v' w',(∃ g cap cur,v' = .slice (some ⟨g,0,none⟩) n cap∧w.heap.size≤g∧w'.heap[g]? = some (.cells cur e (0,0))∧n≤cap∧cap≤maxLen∧cur.size=cap * k)→Ext w w'→wpList P ops Q rest (a.put o.dst v') w') : wpList P ops Q (o :: rest) a w:=by
 refine wpList_plain hgd fun _ hK => ?_
 subst hik
 have hr:=Go.Lib.run_append_nil_zeros (P:=P) w t tn o.type e i z kq kn ht htn hi hz n h0 hk (by simp only [maxLen] at h63;omega) (by omega)
 have hge : n≤grownCap w n 0 e:=grownCap_ge w n 0 e
 have hcm : grownCap w n 0 e≤maxLen:=grownCap_le_maxLen w n 0 e h63
 unfold Oper.wp execOp
 simp only [ho,resolve,invoke,builtin,Sem.run_bind,Sem.run_pure,Result.andThen_ok,List.map_toArray,List.map_cons,List.map_nil,hs,hu,hr]
 refine hK _ _ (h _ _ ⟨w.heap.size,_,_,rfl,Nat.le_refl _,heap_alloc_new w.drew _,hge,hcm,?_⟩ ((Ext.refl w).drew.alloc _))
 rw [Array.size_append,size_zeroCells,size_zeroCells,hzk,← Nat.add_mul]
 congr 1
 omega
set_option maxHeartbeats 800000 in
theorem grow_Items {n : Nat} (hn : n≤2000) (w : World) : Calls Tryz.prog 114 #[.slice none 0 0,.int .i64 (n : Int)] w fun e w' => ∃ v,e = .returned v∧OwnI w' w.heap.size v []∧Ext w w':=by
 obtain ⟨ii,iz,hi,hz,hi3,hz3,hby⟩:=Item.infoE
 have hs0 : ∀ w,(Instr.slice 72 (.slice none 0 0) none (some (.int .i64 0)) none).run Tryz.prog w = .ok (.slice none 0 0) w:=slice_upto_Stack none [] 0 0 0 rfl (by decide)
 by_cases h0 : n=0
 ·subst h0
  go_enter Tryz.func114,Tryz.ntmps114
  go_wp2
  go_ret
  exact ⟨_,rfl,OwnI.nil _ _,Ext.refl _⟩
 ·have q0 : decide ((n : Int) < 0)=false:=decide_eq_false (by omega)
  have q1 : decide (0 < (n : Int))=true:=decide_eq_true (by omega)
  have q1' : decide (0 < n)=true:=decide_eq_true (by omega)
  have w1 : IntKind.i64.wrap (n : Int)=(n : Int):=IntWalk.i64_in _ (by omega)
  have hs1 : ∀ (g cap : Nat) (w : World),(Instr.slice 72 (.slice (some ⟨g,0,none⟩) n cap) none (some (.int .i64 0)) none).run Tryz.prog w = .ok (.slice (some ⟨g,0,none⟩) 0 cap) w:=fun g cap w=>run_slice_upto Tryz.underlying72 hi (some ⟨g,0,none⟩) n cap 0 0 rfl (Nat.zero_le _) w
  have hi:=Lib.hid hi;have hz:=Lib.hid hz;have hi3:=Lib.hid hi3;have hz3:=Lib.hid hz3;have hby:=Lib.hid hby;have h0:=Lib.hid h0;have hn:=Lib.hid hn
  go_enter Tryz.func114,Tryz.ntmps114
  go_wp2_with (at_builtin;refine Hid.out ?_)
  refine Hid.mk ?_
  refine wpList_append_zeros rfl _ _ 72 3 rfl rfl rfl Tryz.underlying72 Tryz.underlying3 hi.out hz.out hi3.out hz3.out (by have:=h0.out;omega) (by decide) (by have:=hn.out;simp [maxLen];omega) (by rw [hby.out];have:=hn.out;omega) ?_
  rintro v' w' ⟨g,cap,cur,rfl,hg,hh,hnc,hcm,hcs⟩ hE
  have hH:=Lib.hid (And.intro hg (And.intro hh (And.intro hcm (And.intro hcs hE))))
  have hnc' : n≤cap:=hnc
  clear hg hh hcm hcs hE
  go_wp2
  go_ret
  exact ⟨_,rfl,⟨rfl,.inr ⟨g,cap,cur,rfl,hH.out.1,hH.out.2.1,Nat.zero_le _,hH.out.2.2.1,hH.out.2.2.2.1,by simp⟩⟩,hH.out.2.2.2.2⟩
theorem flatten_take_succ {l : List (List Item)} {k : Nat} {x : List Item} (hx : l[k]? = some x) : (l.take (k+1)).flatten=(l.take k).flatten ++ x:=by
 rw [List.take_add_one,hx]
 simp
theorem flatten_len {l : List (List Item)} (hb : ∀ s ∈ l,s.length≤600) : ∀ k,((l.take k).flatten).length≤k * 600:=by
 intro k
 induction k with
 | zero=>simp
 | succ k ih =>
  cases hx : l[k]? with
  | none=>rw [List.take_of_length_le (by have:=List.getElem?_eq_none_iff.1 hx;omega)];rw [List.take_of_length_le (by have:=List.getElem?_eq_none_iff.1 hx;omega)] at ih;omega
  | some x=>rw [flatten_take_succ hx,List.length_append];have:=hb x (List.mem_of_getElem? hx);omega
set_option maxHeartbeats 1600000 in
theorem concat_Items {l : List (List Item)} {v : Value} {w : World} (hl : Sts w v l) (h2 : l.length≤2) (hb : ∀ s ∈ l,s.length≤600) : Calls Tryz.prog 79 #[v] w fun e w' => ∃ u,e = .returned u∧OwnI w' w.heap.size u l.flatten∧Ext w w':=by
 obtain ⟨ii,iz,hi,hz,hi3,hz3,hby⟩:=Item.infoE
 have hi:=Lib.hid hi;have hz:=Lib.hid hz;have hi3:=Lib.hid hi3;have hz3:=Lib.hid hz3;have hby:=Lib.hid hby
 obtain ⟨a,cp,rfl,hlc,hcm,-⟩:=hl.form
 unfold maxLen at hcm
 have hlen:=Lib.hid (flatten_len hb)
 have hb:=Lib.hid hb
 go_enter Tryz.func79,Tryz.ntmps79
 go_wp2
 go_loopw [3,11] (fun sv iv wr => ∃ k : Nat,k≤l.length∧iv = .int .i64 k∧sv = .int .i64 (((l.take k).flatten).length : Nat)∧w=wr) (fun _ iv _=>l.length - (intOf iv).toNat)
 case atStart=>exact ⟨0,Nat.zero_le _,rfl,rfl,rfl⟩
 case round =>
  obtain ⟨k,hk,rfl,rfl,rfl⟩:=hrel
  by_cases hlt : k < l.length
  ·have hlt' : decide (k < l.length)=true:=decide_eq_true hlt
   obtain ⟨x,hx⟩ : ∃ x,l[k]? = some x:=⟨l[k],by simp [hlt]⟩
   obtain ⟨b,off,s,rfl,hbb,hc,hs⟩:=hl.cell hx
   obtain ⟨as',cs',rfl,-⟩:=hs.form
   have hxl:=hb.out x (List.mem_of_getElem? hx)
   have hfl:=hlen.out k
   have hsum : (((l.take k).flatten).length : Int)+(x.length : Int)=(((l.take (k+1)).flatten).length : Nat):=by rw [flatten_take_succ hx,List.length_append];omega
   have hfl2:=hlen.out (k+1)
   have hw1 : IntKind.i64.wrap ((((l.take k).flatten).length : Int)+(x.length : Int))=(((l.take (k+1)).flatten).length : Nat):=by rw [hsum];exact IntWalk.i64_in _ (by omega)
   have hi0 : (0 : Int)≤(k : Int):=by omega
   have hi1 : (k : Int) < (l.length : Int):=by omega
   have hneg : decide ((((l.take (k+1)).flatten).length : Int) < 0)=false:=decide_eq_false (by omega)
   replace hsum:=Lib.hid hsum
   replace hx:=Lib.hid hx
   replace hs:=Lib.hid hs
   generalize hA1 : ((l.take k).flatten).length=A1 at *
   generalize hA2 : ((l.take (k+1)).flatten).length=A2 at *
   replace hA1:=Lib.hid hA1
   replace hA2:=Lib.hid hA2
   go_wp2
   go_roundw
   case rel=>exact ⟨k+1,by omega,by go_num,by rw [hA2.out],by first | rfl | trivial⟩
   case measure=>simp [intOf];omega
  ·have hke : k=l.length:=by omega
   subst hke
   have hlt' : decide (l.length < l.length)=false:=decide_eq_false (by omega)
   rw [List.take_length]
   have hfl:=hlen.out l.length
   rw [List.take_length] at hfl
   obtain ⟨N,hN⟩ : ∃ N,l.flatten.length=N:=⟨_,rfl⟩
   rw [hN] at hfl ⊢
   replace hN:=Lib.hid hN
   clear hlt hk
   go_wp2_with fail
   refine (grow_Items (n:=N) (by omega) _).mono ?_
   rintro e w1 ⟨u,rfl,hO,hE⟩
   obtain ⟨ua,uc,rfl,-⟩:=(OwnI.its hO).form
   have hO0 : OwnI w1 w.heap.size (.slice ua ([] : List Item).length uc) ((l.take 0).flatten):=hO
   go_wp2
   go_loopw [6,27] (fun sv iv wr => ∃ k n : Nat,k≤l.length∧iv = .int .i64 k∧Hid (((l.take k).flatten).length=n)∧(∃ a c,sv = .slice a n c)∧Hid (OwnI wr w.heap.size sv ((l.take k).flatten))∧Ext w wr) (fun _ iv _=>l.length - (intOf iv).toNat)
   case atStart=>exact ⟨0,0,Nat.zero_le _,rfl,Hid.mk rfl,⟨_,_,rfl⟩,Hid.mk hO0,hE⟩
   case round =>
    obtain ⟨k,n,hk,rfl,hn,⟨sa,sc,rfl⟩,hW,hX⟩:=hrel
    by_cases hlt : k < l.length
    ·have hlt' : decide (k < l.length)=true:=decide_eq_true hlt
     obtain ⟨x,hx⟩ : ∃ x,l[k]? = some x:=⟨l[k],by simp [hlt]⟩
     obtain ⟨b,off,s,rfl,hbb,hc,hs⟩:=(hl.ext hX).cell hx
     obtain ⟨as',cs',rfl,-⟩:=hs.form
     have hxl:=hb.out x (List.mem_of_getElem? hx)
     have hfl:=hlen.out k
     rw [hn.out] at hfl
     have hi0 : (0 : Int)≤(k : Int):=by omega
     have hi1 : (k : Int) < (l.length : Int):=by omega
     have hbd : Hid (n+x.length≤2000):=Hid.mk (by omega)
     have hWn : Hid (Own wr w.heap.size 70 3 (.slice sa n sc) n (((l.take k).flatten).flatMap Item.row)):=Hid.mk (by have h:=hW.out;unfold OwnI at h;rwa [hn.out] at h)
     have hH:=Lib.hid (And.intro hWn.out (And.intro hs (And.intro hX hx)))
     have hsz : Hid (w.heap.size≤wr.heap.size):=Hid.mk hX.size
     clear hs hX hx hxl hfl hWn hW
     go_wp2_with (at_builtin;refine Hid.out ?_)
     refine Hid.mk ?_
     refine wpList_append_any rfl _ _ 72 72 rfl rfl rfl Tryz.underlying72 Tryz.underlying72 hi.out hz.out hi3.out hz3.out hH.out.1 hH.out.2.1 ?_ (Nat.le_trans hbd.out (by simp [maxLen])) (by rw [hby.out];have:=hbd.out;omega) hsz.out ?_
     ·intro u hu
      obtain ⟨y,hy,hu⟩:=List.mem_flatMap.1 hu
      simp only [Item.row,List.mem_cons,List.not_mem_nil,or_false] at hu
      rcases hu with rfl | rfl | rfl <;> rfl
     intro v' w' hO' hK' _ _
     have hn' : Hid (((l.take (k+1)).flatten).length=n+x.length):=Hid.mk (by rw [flatten_take_succ hH.out.2.2.2,List.length_append,hn.out])
     have hN' : Hid (OwnI w' w.heap.size v' ((l.take (k+1)).flatten)):=Hid.mk (by
      unfold OwnI
      rw [hn'.out,flatten_take_succ hH.out.2.2.2,List.flatMap_append]
      exact hO')
     obtain ⟨a',c',rfl,-⟩:=(Own.sl hO').slice_form
     have hXn : Hid (Ext w w'):=Hid.mk (Below.trans hH.out.2.2.1 hK'.below)
     clear hO' hK'
     go_wp2
     go_roundw
     case rel=>exact ⟨k+1,_,by omega,by go_num,hn',⟨_,_,rfl⟩,hN',hXn.out⟩
     case measure=>simp [intOf];omega
    ·have hke : k=l.length:=by omega
     subst hke
     have hlt' : decide (l.length < l.length)=false:=decide_eq_false (by omega)
     have hW2 : Hid (OwnI wr w.heap.size (.slice sa n sc) l.flatten):=Hid.mk (by have h:=hW.out;rwa [List.take_length] at h)
     clear hlt hk hW hn
     go_wp2
     go_ret
     exact ⟨_,rfl,hW2.out,hX⟩
end Go.Proofs.YtnplphcnagooeaaGreatDoor

/- Contracts: Great, Check and Same of the reference of layer 33, Check of the program. (printed by gen/stk33.py) -/
namespace Go.Proofs.YtnplphcnagooeaaGreatDoor
set_option maxRecDepth 100000
open Go.RowKit
set_option maxHeartbeats 800000 in
theorem ref33_Great {l : List (List Item)} {num : Int} {s : Value} {w : World} (hl : Sts w s l) :
  Calls Tryz.prog 36 #[.agg #[.int .i64 num,s]] w fun e w'=>e = .returned (.bool (greatK l))∧Ext w w':=by
 have hE0:=(Ext.refl w).alloc (.cells #[.int .i64 num,s] 68)
 have hl0:=hl.ext hE0
 obtain ⟨a,cp,rfl,hlc,hcm,-⟩:=hl.form
 unfold maxLen at hcm
 have hW:=Lib.hid hl0
 clear hl hl0
 go_enter Tryz.func36,Tryz.ntmps36
 go_wp2
 obtain ⟨w1,hw1⟩ : ∃ w1,w.alloc (.cells #[.int .i64 num,.slice a l.length cp] 68)=w1:=⟨_,rfl⟩
 have b2 : w1.cell? ⟨w.heap.size,1,none⟩=some (.slice a l.length cp):=by rw [← hw1];simp
 rw [hw1] at hE0 hW ⊢
 clear hw1
 go_loop [3] (fun iv => ∃ k : Nat,k≤l.length∧k≤5∧iv = .int .i64 k∧Hid ((l.take k).any wideS=false)) (fun iv=>l.length - (intOf iv).toNat)
 case atStart=>exact ⟨0,Nat.zero_le _,by omega,rfl,by simp [Hid]⟩
 case round =>
  obtain ⟨k,hk,hk4,rfl,hN⟩:=hrel
  by_cases hlt : k < l.length
  ·have hlt' : decide ((k : Int) < (l.length : Int))=true:=decide_eq_true (by omega)
   by_cases h4 : k≤4
   ·have h4' : decide ((k : Int)≤4)=true:=decide_eq_true (by omega)
    obtain ⟨x,hx⟩ : ∃ x,l[k]? = some x:=⟨l[k],by simp [hlt]⟩
    obtain ⟨b,off,sv,rfl,hbb,d0,hcl⟩:=hW.out.cell hx
    have hX:=Lib.hid hx
    obtain ⟨ca,ccp,rfl,hclc,hccm,-⟩:=hcl.form
    clear hx hbb
    by_cases h5 : 610 < x.length
    ·have h5' : Hid (decide (610 < x.length)=true):=Hid.mk (decide_eq_true (by omega))
     have hg:=Lib.hid (greatK_hit hX.out h4 (by simp [wideS,h5]))
     clear h5
     go_wp2_with fail
     refine (ref28_Great hcl).mono ?_
     rintro e wx ⟨rfl,rfl⟩
     rw [h5'.out]
     go_wp2
     go_ret
     exact ⟨by rw [hg.out] <;> rfl,hE0⟩
    ·have h5' : Hid (decide (610 < x.length)=false):=Hid.mk (decide_eq_false (by omega))
     have hN2:=Lib.hid (sany_take_succ hN.out hX.out (by simp [wideS,h5]))
     clear h5
     go_wp2_with fail
     refine (ref28_Great hcl).mono ?_
     rintro e wx ⟨rfl,rfl⟩
     rw [h5'.out]
     go_wp2
     go_round
     case rel=>exact ⟨k+1,by omega,by omega,by go_num,hN2.out⟩
     case measure=>simp [intOf];omega
   ·have h4' : decide ((k : Int)≤4)=false:=decide_eq_false (by omega)
    have h6 : decide ((4 : Int) < (l.length : Int))=true:=decide_eq_true (by omega)
    have hg : Hid (greatK l=true):=Hid.mk (by rw [greatK,decide_eq_true (by omega : 4 < l.length),Bool.or_true])
    go_wp2
    go_ret
    exact ⟨by rw [hg.out] <;> rfl,hE0⟩
  ·have hlt' : decide ((k : Int) < (l.length : Int))=false:=decide_eq_false (by omega)
   have hkl : k=l.length:=by omega
   subst hkl
   by_cases h4 : 4 < l.length
   ·have h6 : decide ((4 : Int) < (l.length : Int))=true:=decide_eq_true (by omega)
    have hg : Hid (greatK l=true):=Hid.mk (by rw [greatK,decide_eq_true h4,Bool.or_true])
    go_wp2
    go_ret
    exact ⟨by rw [hg.out] <;> rfl,hE0⟩
   ·have h6 : decide ((4 : Int) < (l.length : Int))=false:=decide_eq_false (by omega)
    have hg : Hid (greatK l=false):=Hid.mk (by
     rw [greatK,decide_eq_false h4,Bool.or_false,List.take_of_length_le (by omega)]
     have:=hN.out
     rwa [List.take_length] at this)
    go_wp2
    go_ret
    exact ⟨by rw [hg.out] <;> rfl,hE0⟩
theorem stkErr_bad {x : Stk} (h : okK x=false) : stkErr x=8:=by simp [stkErr,h]
theorem stkErr_ok {x : Stk} (h : okK x=true) : stkErr x=0:=by simp [stkErr,h]
theorem okK_cell {x : Stk} {k : Nat} {s : List Item} (hx : x.cells[k]? = some s) (hs : okS s=false) : okK x=false:=by
 have : x.cells.all okS=false:=all_miss hx hs
 simp [okK,this]
set_option maxHeartbeats 1600000 in
theorem stacks_Check {l : List (List Item)} {num : Int} {s : Value} {w : World} (hl : Sts w s l) :
  Calls Tryz.prog 78 #[.agg #[.int .i64 num,s]] w fun e w'=>e = .returned (.int .i64 (stkErr ⟨num,l⟩))∧Ext w w':=by
 have hE0:=(Ext.refl w).alloc (.cells #[.int .i64 num,s] 68)
 have hl0:=hl.ext hE0
 obtain ⟨a,cp,rfl,hlc,hcm,-⟩:=hl.form
 unfold maxLen at hcm
 have hW:=Lib.hid hl0
 clear hl hl0
 have hcase : (okK ⟨num,l⟩=false∧(decide (num < 0)=true∨(decide (num < 0)=false∧(decide (1000000 < num)=true∨(decide (1000000 < num)=false∧(((l.length : Int) == 0)=true∨(((l.length : Int) == 0)=false∧decide ((2 : Int) < (l.length : Int))=true)))))))∨(decide (num < 0)=false∧decide (1000000 < num)=false∧((l.length : Int) == 0)=false∧decide ((2 : Int) < (l.length : Int))=false∧okK ⟨num,l⟩=l.all okS):=by
  unfold okK inB
  simp only [decide_eq_true_eq,decide_eq_false_iff_not,beq_iff_eq,beq_eq_false_iff_ne]
  by_cases h : 0≤num∧num≤1000000∧1≤l.length∧l.length≤2
  ·right
   refine ⟨by omega,by omega,by omega,by omega,?_⟩
   simp [h.1,h.2.1,h.2.2.1,h.2.2.2]
  ·left
   refine ⟨?_,by omega⟩
   by_cases h0 : 0≤num
   ·by_cases h1 : num≤1000000
    ·by_cases h2 : 1≤l.length
     ·have h3 : ¬ l.length≤2:=fun h3=>h ⟨h0,h1,h2,h3⟩
      simp [h3]
     ·simp [h2]
    ·simp [h1]
   ·simp [h0]
 rcases hcase with ⟨hbad,g1 | ⟨g1,g2 | ⟨g2,g3 | ⟨g3,g4⟩⟩⟩⟩ | ⟨g1,g2,g3,g4,hall⟩
 iterate 4
  ·have hres:=Lib.hid (stkErr_bad hbad)
   clear hbad
   go_enter Tryz.func78,Tryz.ntmps78
   go_wp2
   go_ret
   exact ⟨by rw [hres.out] <;> rfl,hE0⟩
 ·have hall':=Lib.hid hall
  clear hall
  go_enter Tryz.func78,Tryz.ntmps78
  go_wp2
  obtain ⟨w1,hw1⟩ : ∃ w1,w.alloc (.cells #[.int .i64 num,.slice a l.length cp] 68)=w1:=⟨_,rfl⟩
  have b2 : w1.cell? ⟨w.heap.size,1,none⟩=some (.slice a l.length cp):=by rw [← hw1];simp
  rw [hw1] at hE0 hW ⊢
  clear hw1
  go_loopw [29] (fun iv wr => ∃ k : Nat,k≤l.length∧iv = .int .i64 k∧Ext w1 wr∧Hid ((l.take k).all okS=true)) (fun iv _=>l.length - (intOf iv).toNat)
  case atStart=>exact ⟨0,Nat.zero_le _,rfl,Ext.refl _,by simp [Hid]⟩
  case round =>
   obtain ⟨k,hk,rfl,hE,hN⟩:=hrel
   have e2:=hE.cell b2
   by_cases hlt : k < l.length
   ·obtain ⟨x,hx⟩ : ∃ x,l[k]? = some x:=⟨l[k],by simp [hlt]⟩
    obtain ⟨b,off,sv,rfl,hbb,d0,hcl⟩:=(hW.out.ext hE).cell hx
    have hX:=Lib.hid hx
    obtain ⟨ca,ccp,rfl,-⟩:=hcl.form
    have hC:=Lib.hid hcl
    clear hx hbb hcl
    cases hok : okS x
    ·have hc : Hid (chk x=8):=Hid.mk (by simp [chk,hok])
     have hres:=Lib.hid (stkErr_bad (okK_cell (x:=⟨num,l⟩) hX.out hok))
     clear hok
     go_wp2_with fail
     refine (items_Check hC.out).mono ?_
     rintro e w2 ⟨rfl,hE2⟩
     rw [hc.out]
     go_wp2
     go_ret
     exact ⟨by rw [hres.out] <;> rfl,(hE0.trans hE).trans hE2⟩
    ·have hc : Hid (chk x=0):=Hid.mk (by simp [chk,hok])
     have hN2:=Lib.hid (all_take_succ hN.out hX.out hok)
     clear hok
     go_wp2_with fail
     refine (items_Check hC.out).mono ?_
     rintro e w2 ⟨rfl,hE2⟩
     rw [hc.out]
     go_wp2
     go_roundw
     case rel=>exact ⟨k+1,by omega,by go_num,hE.trans hE2,hN2.out⟩
     case measure=>simp [intOf];omega
   ·have hkl : k=l.length:=by omega
    subst hkl
    have hres : Hid (stkErr ⟨num,l⟩=0):=Hid.mk (stkErr_ok (by
     rw [hall'.out]
     have:=hN.out
     rwa [List.take_length] at this))
    go_wp2
    go_ret
    exact ⟨by rw [hres.out] <;> rfl,hE0.trans hE⟩
set_option maxHeartbeats 1600000 in
theorem ref33_Check {l : List (List Item)} {num : Int} {s : Value} {w : World} (hl : Sts w s l) :
  Calls Tryz.prog 104 #[.agg #[.int .i64 num,s]] w fun e w'=>e = .returned (.int .i64 (stkErr ⟨num,l⟩))∧Ext w w':=by
 have hE0:=(Ext.refl w).alloc (.cells #[.int .i64 num,s] 68)
 have hl0:=hl.ext hE0
 obtain ⟨a,cp,rfl,hlc,hcm,-⟩:=hl.form
 unfold maxLen at hcm
 have hW:=Lib.hid hl0
 clear hl hl0
 have hcase : (okK ⟨num,l⟩=false∧(inB num=false∨(inB num=true∧(decide ((l.length : Int) < 1)=true∨(decide ((l.length : Int) < 1)=false∧decide ((2 : Int) < (l.length : Int))=true)))))∨(inB num=true∧decide ((l.length : Int) < 1)=false∧decide ((2 : Int) < (l.length : Int))=false∧okK ⟨num,l⟩=l.all okS):=by
  unfold okK
  simp only [decide_eq_true_eq,decide_eq_false_iff_not]
  cases hn : inB num
  ·left;simp
  ·by_cases h : 1≤l.length∧l.length≤2
   ·right
    refine ⟨rfl,by omega,by omega,?_⟩
    simp [h.1,h.2]
   ·left
    refine ⟨?_,.inr ⟨rfl,by omega⟩⟩
    by_cases h2 : 1≤l.length
    ·have h3 : ¬ l.length≤2:=fun h3=>h ⟨h2,h3⟩
     simp [h3]
    ·simp [h2]
 rcases hcase with ⟨hbad,g1 | ⟨g1,g2 | ⟨g2,g3⟩⟩⟩ | ⟨g1,g2,g3,hall⟩
 iterate 3
  ·replace g1:=Lib.hid g1
   have hres:=Lib.hid (stkErr_bad hbad)
   clear hbad
   go_enter Tryz.func104,Tryz.ntmps104
   go_wp2_with fail
   refine (ref28_In _ _).mono ?_
   rintro e wx ⟨rfl,rfl⟩
   rw [g1.out]
   go_wp2
   go_ret
   exact ⟨by rw [hres.out] <;> rfl,hE0⟩
 ·replace g1:=Lib.hid g1
  have hall':=Lib.hid hall
  clear hall
  go_enter Tryz.func104,Tryz.ntmps104
  go_wp2_with fail
  refine (ref28_In _ _).mono ?_
  rintro e wx ⟨rfl,rfl⟩
  rw [g1.out]
  go_wp2
  obtain ⟨w1,hw1⟩ : ∃ w1,w.alloc (.cells #[.int .i64 num,.slice a l.length cp] 68)=w1:=⟨_,rfl⟩
  have b2 : w1.cell? ⟨w.heap.size,1,none⟩=some (.slice a l.length cp):=by rw [← hw1];simp
  rw [hw1] at hE0 hW ⊢
  clear hw1
  go_loopw [3] (fun iv wr => ∃ k : Nat,k≤l.length∧iv = .int .i64 k∧Ext w1 wr∧Hid ((l.take k).all okS=true)) (fun iv _=>l.length - (intOf iv).toNat)
  case atStart=>exact ⟨0,Nat.zero_le _,rfl,Ext.refl _,by simp [Hid]⟩
  case round =>
   obtain ⟨k,hk,rfl,hE,hN⟩:=hrel
   have e2:=hE.cell b2
   by_cases hlt : k < l.length
   ·obtain ⟨x,hx⟩ : ∃ x,l[k]? = some x:=⟨l[k],by simp [hlt]⟩
    obtain ⟨b,off,sv,rfl,hbb,d0,hcl⟩:=(hW.out.ext hE).cell hx
    have hX:=Lib.hid hx
    obtain ⟨ca,ccp,rfl,-⟩:=hcl.form
    have hC:=Lib.hid hcl
    clear hx hbb hcl
    cases hok : okS x
    ·have hc : Hid (chk x=8):=Hid.mk (by simp [chk,hok])
     have hres:=Lib.hid (stkErr_bad (okK_cell (x:=⟨num,l⟩) hX.out hok))
     clear hok
     go_wp2_with fail
     refine (ref28_Check hC.out).mono ?_
     rintro e w2 ⟨rfl,hE2⟩
     rw [hc.out]
     go_wp2
     go_ret
     exact ⟨by rw [hres.out] <;> rfl,(hE0.trans hE).trans hE2⟩
    ·have hc : Hid (chk x=0):=Hid.mk (by simp [chk,hok])
     have hN2:=Lib.hid (all_take_succ hN.out hX.out hok)
     clear hok
     go_wp2_with fail
     refine (ref28_Check hC.out).mono ?_
     rintro e w2 ⟨rfl,hE2⟩
     rw [hc.out]
     go_wp2
     go_roundw
     case rel=>exact ⟨k+1,by omega,by go_num,hE.trans hE2,hN2.out⟩
     case measure=>simp [intOf];omega
   ·have hkl : k=l.length:=by omega
    subst hkl
    have hres : Hid (stkErr ⟨num,l⟩=0):=Hid.mk (stkErr_ok (by
     rw [hall'.out]
     have:=hN.out
     rwa [List.take_length] at this))
    go_wp2
    go_ret
    exact ⟨by rw [hres.out] <;> rfl,hE0.trans hE⟩
set_option maxHeartbeats 800000 in
theorem ref33_Same {l : List (List Item)} {num : Int} {s u : Value} {w : World} (hs : Sts w s l) (hu : Sts w u l) :
  Calls Tryz.prog 55 #[.agg #[.int .i64 num,s],.agg #[.int .i64 num,u]] w fun e w'=>e = .returned (.bool true)∧Ext w w':=by
 have hE0:=((Ext.refl w).alloc (.cells #[.int .i64 num,s] 68)).alloc (.cells #[.int .i64 num,u] 68)
 obtain ⟨a,cp,rfl,hlc,hcm,-⟩:=hs.form
 obtain ⟨a2,cp2,rfl,hlc2,hcm2,-⟩:=hu.form
 unfold maxLen at hcm hcm2
 have hS:=Lib.hid (hs.ext hE0)
 have hU:=Lib.hid (hu.ext hE0)
 clear hs hu
 go_enter Tryz.func55,Tryz.ntmps55
 go_wp2
 obtain ⟨w1,hw1⟩ : ∃ w1,(w.alloc (.cells #[.int .i64 num,.slice a l.length cp] 68)).alloc (.cells #[.int .i64 num,.slice a2 l.length cp2] 68)=w1:=⟨_,rfl⟩
 have b2 : w1.cell? ⟨w.heap.size,1,none⟩=some (.slice a l.length cp):=by rw [← hw1];simp
 have b3 : w1.cell? ⟨w.heap.size+1,1,none⟩=some (.slice a2 l.length cp2):=by rw [← hw1];simp
 rw [hw1] at hE0 hS hU ⊢
 clear hw1
 go_loopw [5] (fun iv wr => ∃ k : Nat,k≤l.length∧iv = .int .i64 k∧Ext w1 wr) (fun iv _=>l.length - (intOf iv).toNat)
 case atStart=>exact ⟨0,Nat.zero_le _,rfl,Ext.refl _⟩
 case round =>
  obtain ⟨k,hk,rfl,hE⟩:=hrel
  have e2:=hE.cell b2
  have e3:=hE.cell b3
  by_cases hlt : k < l.length
  ·obtain ⟨x,hx⟩ : ∃ x,l[k]? = some x:=⟨l[k],by simp [hlt]⟩
   obtain ⟨b,off,sv,rfl,hbb,c0,hc⟩:=(hS.out.ext hE).cell hx
   obtain ⟨b2,off2,su,rfl,hbb2,d0,hd⟩:=(hU.out.ext hE).cell hx
   obtain ⟨ca,ccp,rfl,-⟩:=hc.form
   obtain ⟨cb,dcp,rfl,-⟩:=hd.form
   have hC:=Lib.hid hc
   have hD:=Lib.hid hd
   clear hx hc hd hbb hbb2
   have hi0 : (0 : Int)≤(k : Int):=by omega
   have hi1 : (k : Int) < (l.length : Int):=by omega
   go_wp2
   have hSk : ∀ w' w'' : World,(w'.cell? ⟨w.heap.size,1,none⟩=some (.slice (some ⟨b,off,none⟩) l.length cp)∧w'.cell? ⟨w.heap.size+1,1,none⟩=some (.slice (some ⟨b2,off2,none⟩) l.length cp2)∧w'.cell? ⟨b,off+k,none⟩=some (.slice ca x.length ccp)∧w'.cell? ⟨b2,off2+k,none⟩=some (.slice cb x.length dcp)∧Ext wr w')→Ext w' w''→(w''.cell? ⟨w.heap.size,1,none⟩=some (.slice (some ⟨b,off,none⟩) l.length cp)∧w''.cell? ⟨w.heap.size+1,1,none⟩=some (.slice (some ⟨b2,off2,none⟩) l.length cp2)∧w''.cell? ⟨b,off+k,none⟩=some (.slice ca x.length ccp)∧w''.cell? ⟨b2,off2+k,none⟩=some (.slice cb x.length dcp)∧Ext wr w''):=by
    rintro w' w'' ⟨k0,k1,k2,k3,kE⟩ h
    exact ⟨h.cell k0,h.cell k1,h.cell k2,h.cell k3,Ext.trans kE h⟩
   go_region_held3 (fun w'=>(w'.cell? ⟨w.heap.size,1,none⟩=some (.slice (some ⟨b,off,none⟩) l.length cp)∧w'.cell? ⟨w.heap.size+1,1,none⟩=some (.slice (some ⟨b2,off2,none⟩) l.length cp2)∧w'.cell? ⟨b,off+k,none⟩=some (.slice ca x.length ccp)∧w'.cell? ⟨b2,off2+k,none⟩=some (.slice cb x.length dcp)∧Ext wr w')) (first | assumption | exact ⟨e2,e3,c0,d0,(Ext.refl _).drew⟩ | (refine hSk _ _ (by assumption) ?_;first | assumption | exact (Ext.refl _).alloc _ | exact ((Ext.refl _).alloc _).drew)) (first | (go_at_call 102;refine (ref28_Same_yes (hC.out.ext ?_) (hD.out.ext ?_)).mono ?_;(exact And.right (And.right (And.right (And.right (by assumption)))));(exact And.right (And.right (And.right (And.right (by assumption)))));rintro e wr0 ⟨rfl,hR0⟩))
   obtain ⟨g0,g1,g2,g3,hRR⟩:=(by assumption : (wr0.cell? ⟨w.heap.size,1,none⟩=some (.slice (some ⟨b,off,none⟩) l.length cp)∧wr0.cell? ⟨w.heap.size+1,1,none⟩=some (.slice (some ⟨b2,off2,none⟩) l.length cp2)∧wr0.cell? ⟨b,off+k,none⟩=some (.slice ca x.length ccp)∧wr0.cell? ⟨b2,off2+k,none⟩=some (.slice cb x.length dcp)∧Ext wr wr0))
   clear e2;have e2:=g0;clear g0
   clear e3;have e3:=g1;clear g1
   clear c0;have c0:=g2;clear g2
   clear d0;have d0:=g3;clear g3
   go_wp2
   go_roundw
   case rel=>exact ⟨k+1,by omega,by go_num,hE.trans hRR⟩
   case measure=>simp [intOf];omega
  ·have hkl : k=l.length:=by omega
   subst hkl
   go_wp2
   go_ret
   exact ⟨rfl,hE0.trans hE⟩
end Go.Proofs.YtnplphcnagooeaaGreatDoor

/- Contracts: monitor.counted; monitor.Check where the head fails. (printed by gen/mon35.py) -/
namespace Go.Proofs.YtnplphcnagooeaaGreatDoor
set_option maxRecDepth 100000
open Go.RowKit
theorem headM_parts {m : Mon} (h : headM m=true) : (((okM m.mem.al m.mem.next=true∧(m.stks.length == m.mem.al.length)=true)∧cntd m.tag=true)∧cntd m.call=true)∧okR m.run=true:=by
 unfold headM at h
 simpa only [Bool.and_eq_true] using h
theorem mon_counted (n : Int) (w : World) : Calls Tryz.prog 76 #[.int .i64 n] w fun e w'=>e = .returned (.bool (cntd n))∧w=w':=by
 by_cases h0 : 1≤n <;> by_cases h1 : n≤1000000
 all_goals
  go_enter Tryz.func76,Tryz.ntmps76
  go_wp2
  go_ret
  exact ⟨by simp [cntd,h0,h1],rfl⟩
set_option maxRecDepth 100000 in
set_option maxHeartbeats 12800000 in
theorem mon_Check_head {A : List Alloc} {nx : Int} {K : List Stk} {R : List Int} {tg cl : Int} {sa ss sr : Value} {w : World} (hA : Als w sa A) (hn : i64B nx) (hK : Kts w ss K) (hR : Nts w sr R) (hh : headM ⟨⟨A,nx⟩,K,R,tg,cl⟩=false) :
  Calls Tryz.prog 32 #[.agg #[sa,.int .i64 nx,ss,sr,.int .i64 tg,.int .i64 cl]] w fun e w'=>e = .returned (.int .i64 (monErr ⟨⟨A,nx⟩,K,R,tg,cl⟩))∧Ext w w':=by
 obtain ⟨aa,ac,rfl,hac,hacm,-⟩:=hA.form
 obtain ⟨ka,kc,rfl,hkc,hkcm,-⟩:=hK.form
 obtain ⟨ra,rc,rfl,hrc,hrcm,-⟩:=hR.form
 unfold maxLen at hacm hkcm hrcm
 have hE0:=(Ext.refl w).alloc (.cells #[.slice aa A.length ac,.int .i64 nx,.slice ka K.length kc,.slice ra R.length rc,.int .i64 tg,.int .i64 cl] 28)
 have bM:=Box.new w 28 #[.slice aa A.length ac,.int .i64 nx,.slice ka K.length kc,.slice ra R.length rc,.int .i64 tg,.int .i64 cl]
 replace hA:=Lib.hid (hA.ext hE0);replace hK:=Lib.hid (hK.ext hE0);replace hR:=Lib.hid (hR.ext hE0)
 cases h1 : okM A nx
 ·have q1:=Lib.hid (memErr_bad h1)
  have hres:=Lib.hid (monErr_head (m:=⟨⟨A,nx⟩,K,R,tg,cl⟩) hh)
  clear h1 hh
  go_enter Tryz.func32,Tryz.ntmps32
  have m0 : World.cell? (World.alloc w (.cells #[.slice aa A.length ac,.int .i64 nx,.slice ka K.length kc,.slice (ra) R.length rc,.int .i64 tg,.int .i64 cl] 28)) ⟨w.heap.size,0,none⟩=some (.slice aa A.length ac):=bM.cell 0
  have m1 : World.cell? (World.alloc w (.cells #[.slice aa A.length ac,.int .i64 nx,.slice ka K.length kc,.slice (ra) R.length rc,.int .i64 tg,.int .i64 cl] 28)) ⟨w.heap.size,1,none⟩=some (.int .i64 nx):=bM.cell 1
  have m2 : World.cell? (World.alloc w (.cells #[.slice aa A.length ac,.int .i64 nx,.slice ka K.length kc,.slice (ra) R.length rc,.int .i64 tg,.int .i64 cl] 28)) ⟨w.heap.size,2,none⟩=some (.slice ka K.length kc):=bM.cell 2
  have m3 : World.cell? (World.alloc w (.cells #[.slice aa A.length ac,.int .i64 nx,.slice ka K.length kc,.slice (ra) R.length rc,.int .i64 tg,.int .i64 cl] 28)) ⟨w.heap.size,3,none⟩=some (.slice ra R.length rc):=bM.cell 3
  have m4 : World.cell? (World.alloc w (.cells #[.slice aa A.length ac,.int .i64 nx,.slice ka K.length kc,.slice (ra) R.length rc,.int .i64 tg,.int .i64 cl] 28)) ⟨w.heap.size,4,none⟩=some (.int .i64 tg):=bM.cell 4
  have m5 : World.cell? (World.alloc w (.cells #[.slice aa A.length ac,.int .i64 nx,.slice ka K.length kc,.slice (ra) R.length rc,.int .i64 tg,.int .i64 cl] 28)) ⟨w.heap.size,5,none⟩=some (.int .i64 cl):=bM.cell 5
  have mlt:=bM.lt
  go_wp2_with fail
  refine (allocs_Check hA.out hn).mono ?_
  rintro e w1 ⟨rfl,hE1⟩
  rw [q1.out]
  clear m0 m1 m2 m3 m4 m5 mlt
  replace bM:=bM.ext hE1
  have m0 : World.cell? w1 ⟨w.heap.size,0,none⟩=some (.slice aa A.length ac):=bM.cell 0
  have m1 : World.cell? w1 ⟨w.heap.size,1,none⟩=some (.int .i64 nx):=bM.cell 1
  have m2 : World.cell? w1 ⟨w.heap.size,2,none⟩=some (.slice ka K.length kc):=bM.cell 2
  have m3 : World.cell? w1 ⟨w.heap.size,3,none⟩=some (.slice ra R.length rc):=bM.cell 3
  have m4 : World.cell? w1 ⟨w.heap.size,4,none⟩=some (.int .i64 tg):=bM.cell 4
  have m5 : World.cell? w1 ⟨w.heap.size,5,none⟩=some (.int .i64 cl):=bM.cell 5
  have mlt:=bM.lt
  go_wp2
  go_ret
  rw [hres.out]
  exact ⟨rfl,Ext.trans hE0 hE1⟩
 have q1:=Lib.hid (memErr_ok h1)
 cases h2 : K.length == A.length
 ·have hres:=Lib.hid (monErr_head (m:=⟨⟨A,nx⟩,K,R,tg,cl⟩) hh)
  have g1 : (K.length != A.length)=true:=by rw [bne,h2];rfl
  have g2 : ((K.length : Int) != (A.length : Int))=true:=by simp only [bne_iff_ne,ne_eq,Int.natCast_inj];simpa using h2
  clear h1 hh
  replace h2:=Lib.hid h2
  go_enter Tryz.func32,Tryz.ntmps32
  have m0 : World.cell? (World.alloc w (.cells #[.slice aa A.length ac,.int .i64 nx,.slice ka K.length kc,.slice (ra) R.length rc,.int .i64 tg,.int .i64 cl] 28)) ⟨w.heap.size,0,none⟩=some (.slice aa A.length ac):=bM.cell 0
  have m1 : World.cell? (World.alloc w (.cells #[.slice aa A.length ac,.int .i64 nx,.slice ka K.length kc,.slice (ra) R.length rc,.int .i64 tg,.int .i64 cl] 28)) ⟨w.heap.size,1,none⟩=some (.int .i64 nx):=bM.cell 1
  have m2 : World.cell? (World.alloc w (.cells #[.slice aa A.length ac,.int .i64 nx,.slice ka K.length kc,.slice (ra) R.length rc,.int .i64 tg,.int .i64 cl] 28)) ⟨w.heap.size,2,none⟩=some (.slice ka K.length kc):=bM.cell 2
  have m3 : World.cell? (World.alloc w (.cells #[.slice aa A.length ac,.int .i64 nx,.slice ka K.length kc,.slice (ra) R.length rc,.int .i64 tg,.int .i64 cl] 28)) ⟨w.heap.size,3,none⟩=some (.slice ra R.length rc):=bM.cell 3
  have m4 : World.cell? (World.alloc w (.cells #[.slice aa A.length ac,.int .i64 nx,.slice ka K.length kc,.slice (ra) R.length rc,.int .i64 tg,.int .i64 cl] 28)) ⟨w.heap.size,4,none⟩=some (.int .i64 tg):=bM.cell 4
  have m5 : World.cell? (World.alloc w (.cells #[.slice aa A.length ac,.int .i64 nx,.slice ka K.length kc,.slice (ra) R.length rc,.int .i64 tg,.int .i64 cl] 28)) ⟨w.heap.size,5,none⟩=some (.int .i64 cl):=bM.cell 5
  have mlt:=bM.lt
  go_wp2_with fail
  refine (allocs_Check hA.out hn).mono ?_
  rintro e w1 ⟨rfl,hE1⟩
  rw [q1.out]
  clear m0 m1 m2 m3 m4 m5 mlt
  replace bM:=bM.ext hE1
  have m0 : World.cell? w1 ⟨w.heap.size,0,none⟩=some (.slice aa A.length ac):=bM.cell 0
  have m1 : World.cell? w1 ⟨w.heap.size,1,none⟩=some (.int .i64 nx):=bM.cell 1
  have m2 : World.cell? w1 ⟨w.heap.size,2,none⟩=some (.slice ka K.length kc):=bM.cell 2
  have m3 : World.cell? w1 ⟨w.heap.size,3,none⟩=some (.slice ra R.length rc):=bM.cell 3
  have m4 : World.cell? w1 ⟨w.heap.size,4,none⟩=some (.int .i64 tg):=bM.cell 4
  have m5 : World.cell? w1 ⟨w.heap.size,5,none⟩=some (.int .i64 cl):=bM.cell 5
  have mlt:=bM.lt
  go_wp2
  go_ret
  rw [hres.out]
  exact ⟨rfl,Ext.trans hE0 hE1⟩
 have g1 : (K.length != A.length)=false:=by rw [bne,h2];rfl
 have g2 : ((K.length : Int) != (A.length : Int))=false:=by have:=eq_of_beq h2;rw [this];simp
 have h2e:=Lib.hid (eq_of_beq h2)
 cases h3 : cntd tg
 ·have q3:=Lib.hid h3
  have hres:=Lib.hid (monErr_head (m:=⟨⟨A,nx⟩,K,R,tg,cl⟩) hh)
  clear h1 h3 hh
  replace h2:=Lib.hid h2
  go_enter Tryz.func32,Tryz.ntmps32
  have m0 : World.cell? (World.alloc w (.cells #[.slice aa A.length ac,.int .i64 nx,.slice ka K.length kc,.slice (ra) R.length rc,.int .i64 tg,.int .i64 cl] 28)) ⟨w.heap.size,0,none⟩=some (.slice aa A.length ac):=bM.cell 0
  have m1 : World.cell? (World.alloc w (.cells #[.slice aa A.length ac,.int .i64 nx,.slice ka K.length kc,.slice (ra) R.length rc,.int .i64 tg,.int .i64 cl] 28)) ⟨w.heap.size,1,none⟩=some (.int .i64 nx):=bM.cell 1
  have m2 : World.cell? (World.alloc w (.cells #[.slice aa A.length ac,.int .i64 nx,.slice ka K.length kc,.slice (ra) R.length rc,.int .i64 tg,.int .i64 cl] 28)) ⟨w.heap.size,2,none⟩=some (.slice ka K.length kc):=bM.cell 2
  have m3 : World.cell? (World.alloc w (.cells #[.slice aa A.length ac,.int .i64 nx,.slice ka K.length kc,.slice (ra) R.length rc,.int .i64 tg,.int .i64 cl] 28)) ⟨w.heap.size,3,none⟩=some (.slice ra R.length rc):=bM.cell 3
  have m4 : World.cell? (World.alloc w (.cells #[.slice aa A.length ac,.int .i64 nx,.slice ka K.length kc,.slice (ra) R.length rc,.int .i64 tg,.int .i64 cl] 28)) ⟨w.heap.size,4,none⟩=some (.int .i64 tg):=bM.cell 4
  have m5 : World.cell? (World.alloc w (.cells #[.slice aa A.length ac,.int .i64 nx,.slice ka K.length kc,.slice (ra) R.length rc,.int .i64 tg,.int .i64 cl] 28)) ⟨w.heap.size,5,none⟩=some (.int .i64 cl):=bM.cell 5
  have mlt:=bM.lt
  go_wp2_with fail
  refine (allocs_Check hA.out hn).mono ?_
  rintro e w1 ⟨rfl,hE1⟩
  rw [q1.out]
  clear m0 m1 m2 m3 m4 m5 mlt
  replace bM:=bM.ext hE1
  have m0 : World.cell? w1 ⟨w.heap.size,0,none⟩=some (.slice aa A.length ac):=bM.cell 0
  have m1 : World.cell? w1 ⟨w.heap.size,1,none⟩=some (.int .i64 nx):=bM.cell 1
  have m2 : World.cell? w1 ⟨w.heap.size,2,none⟩=some (.slice ka K.length kc):=bM.cell 2
  have m3 : World.cell? w1 ⟨w.heap.size,3,none⟩=some (.slice ra R.length rc):=bM.cell 3
  have m4 : World.cell? w1 ⟨w.heap.size,4,none⟩=some (.int .i64 tg):=bM.cell 4
  have m5 : World.cell? w1 ⟨w.heap.size,5,none⟩=some (.int .i64 cl):=bM.cell 5
  have mlt:=bM.lt
  go_wp2_with fail
  refine (mon_counted tg _).mono ?_
  rintro e w2 ⟨rfl,rfl⟩
  rw [q3.out]
  go_wp2
  go_ret
  rw [hres.out]
  exact ⟨rfl,Ext.trans hE0 hE1⟩
 have q3:=Lib.hid h3
 cases h4 : cntd cl
 ·have q4:=Lib.hid h4
  have hres:=Lib.hid (monErr_head (m:=⟨⟨A,nx⟩,K,R,tg,cl⟩) hh)
  clear h1 h3 h4 hh
  replace h2:=Lib.hid h2
  go_enter Tryz.func32,Tryz.ntmps32
  have m0 : World.cell? (World.alloc w (.cells #[.slice aa A.length ac,.int .i64 nx,.slice ka K.length kc,.slice (ra) R.length rc,.int .i64 tg,.int .i64 cl] 28)) ⟨w.heap.size,0,none⟩=some (.slice aa A.length ac):=bM.cell 0
  have m1 : World.cell? (World.alloc w (.cells #[.slice aa A.length ac,.int .i64 nx,.slice ka K.length kc,.slice (ra) R.length rc,.int .i64 tg,.int .i64 cl] 28)) ⟨w.heap.size,1,none⟩=some (.int .i64 nx):=bM.cell 1
  have m2 : World.cell? (World.alloc w (.cells #[.slice aa A.length ac,.int .i64 nx,.slice ka K.length kc,.slice (ra) R.length rc,.int .i64 tg,.int .i64 cl] 28)) ⟨w.heap.size,2,none⟩=some (.slice ka K.length kc):=bM.cell 2
  have m3 : World.cell? (World.alloc w (.cells #[.slice aa A.length ac,.int .i64 nx,.slice ka K.length kc,.slice (ra) R.length rc,.int .i64 tg,.int .i64 cl] 28)) ⟨w.heap.size,3,none⟩=some (.slice ra R.length rc):=bM.cell 3
  have m4 : World.cell? (World.alloc w (.cells #[.slice aa A.length ac,.int .i64 nx,.slice ka K.length kc,.slice (ra) R.length rc,.int .i64 tg,.int .i64 cl] 28)) ⟨w.heap.size,4,none⟩=some (.int .i64 tg):=bM.cell 4
  have m5 : World.cell? (World.alloc w (.cells #[.slice aa A.length ac,.int .i64 nx,.slice ka K.length kc,.slice (ra) R.length rc,.int .i64 tg,.int .i64 cl] 28)) ⟨w.heap.size,5,none⟩=some (.int .i64 cl):=bM.cell 5
  have mlt:=bM.lt
  go_wp2_with fail
  refine (allocs_Check hA.out hn).mono ?_
  rintro e w1 ⟨rfl,hE1⟩
  rw [q1.out]
  clear m0 m1 m2 m3 m4 m5 mlt
  replace bM:=bM.ext hE1
  have m0 : World.cell? w1 ⟨w.heap.size,0,none⟩=some (.slice aa A.length ac):=bM.cell 0
  have m1 : World.cell? w1 ⟨w.heap.size,1,none⟩=some (.int .i64 nx):=bM.cell 1
  have m2 : World.cell? w1 ⟨w.heap.size,2,none⟩=some (.slice ka K.length kc):=bM.cell 2
  have m3 : World.cell? w1 ⟨w.heap.size,3,none⟩=some (.slice ra R.length rc):=bM.cell 3
  have m4 : World.cell? w1 ⟨w.heap.size,4,none⟩=some (.int .i64 tg):=bM.cell 4
  have m5 : World.cell? w1 ⟨w.heap.size,5,none⟩=some (.int .i64 cl):=bM.cell 5
  have mlt:=bM.lt
  go_wp2_with fail
  refine (mon_counted tg _).mono ?_
  rintro e w2 ⟨rfl,rfl⟩
  rw [q3.out]
  go_wp2_with fail
  refine (mon_counted cl _).mono ?_
  rintro e w3 ⟨rfl,rfl⟩
  rw [q4.out]
  go_wp2
  go_ret
  rw [hres.out]
  exact ⟨rfl,Ext.trans hE0 hE1⟩
 have q4:=Lib.hid h4
 cases h5 : okR R
 ·have q5:=Lib.hid (runErr_bad h5)
  have hres:=Lib.hid (monErr_head (m:=⟨⟨A,nx⟩,K,R,tg,cl⟩) hh)
  clear h1 h3 h4 h5 hh
  replace h2:=Lib.hid h2
  go_enter Tryz.func32,Tryz.ntmps32
  have m0 : World.cell? (World.alloc w (.cells #[.slice aa A.length ac,.int .i64 nx,.slice ka K.length kc,.slice (ra) R.length rc,.int .i64 tg,.int .i64 cl] 28)) ⟨w.heap.size,0,none⟩=some (.slice aa A.length ac):=bM.cell 0
  have m1 : World.cell? (World.alloc w (.cells #[.slice aa A.length ac,.int .i64 nx,.slice ka K.length kc,.slice (ra) R.length rc,.int .i64 tg,.int .i64 cl] 28)) ⟨w.heap.size,1,none⟩=some (.int .i64 nx):=bM.cell 1
  have m2 : World.cell? (World.alloc w (.cells #[.slice aa A.length ac,.int .i64 nx,.slice ka K.length kc,.slice (ra) R.length rc,.int .i64 tg,.int .i64 cl] 28)) ⟨w.heap.size,2,none⟩=some (.slice ka K.length kc):=bM.cell 2
  have m3 : World.cell? (World.alloc w (.cells #[.slice aa A.length ac,.int .i64 nx,.slice ka K.length kc,.slice (ra) R.length rc,.int .i64 tg,.int .i64 cl] 28)) ⟨w.heap.size,3,none⟩=some (.slice ra R.length rc):=bM.cell 3
  have m4 : World.cell? (World.alloc w (.cells #[.slice aa A.length ac,.int .i64 nx,.slice ka K.length kc,.slice (ra) R.length rc,.int .i64 tg,.int .i64 cl] 28)) ⟨w.heap.size,4,none⟩=some (.int .i64 tg):=bM.cell 4
  have m5 : World.cell? (World.alloc w (.cells #[.slice aa A.length ac,.int .i64 nx,.slice ka K.length kc,.slice (ra) R.length rc,.int .i64 tg,.int .i64 cl] 28)) ⟨w.heap.size,5,none⟩=some (.int .i64 cl):=bM.cell 5
  have mlt:=bM.lt
  go_wp2_with fail
  refine (allocs_Check hA.out hn).mono ?_
  rintro e w1 ⟨rfl,hE1⟩
  rw [q1.out]
  clear m0 m1 m2 m3 m4 m5 mlt
  replace bM:=bM.ext hE1
  have m0 : World.cell? w1 ⟨w.heap.size,0,none⟩=some (.slice aa A.length ac):=bM.cell 0
  have m1 : World.cell? w1 ⟨w.heap.size,1,none⟩=some (.int .i64 nx):=bM.cell 1
  have m2 : World.cell? w1 ⟨w.heap.size,2,none⟩=some (.slice ka K.length kc):=bM.cell 2
  have m3 : World.cell? w1 ⟨w.heap.size,3,none⟩=some (.slice ra R.length rc):=bM.cell 3
  have m4 : World.cell? w1 ⟨w.heap.size,4,none⟩=some (.int .i64 tg):=bM.cell 4
  have m5 : World.cell? w1 ⟨w.heap.size,5,none⟩=some (.int .i64 cl):=bM.cell 5
  have mlt:=bM.lt
  go_wp2_with fail
  refine (mon_counted tg _).mono ?_
  rintro e w2 ⟨rfl,rfl⟩
  rw [q3.out]
  go_wp2_with fail
  refine (mon_counted cl _).mono ?_
  rintro e w3 ⟨rfl,rfl⟩
  rw [q4.out]
  go_wp2_with fail
  refine (guard_Check (hR.out.ext hE1)).mono ?_
  rintro e w4 ⟨rfl,rfl⟩
  rw [q5.out]
  go_wp2
  go_ret
  rw [hres.out]
  exact ⟨rfl,Ext.trans hE0 hE1⟩
 simp only [headM,h1,h2,h3,h4,h5,Bool.and_self] at hh
 cases hh
set_option maxRecDepth 100000 in
set_option maxHeartbeats 12800000 in
theorem mon_Check_last {A : List Alloc} {nx : Int} {K : List Stk} {R : List Int} {tg cl : Int} {sa ss sr : Value} {w : World} (hA : Als w sa A) (hn : i64B nx) (hK : Kts w ss K) (hR : Nts w sr R) (hh : headM ⟨⟨A,nx⟩,K,R,tg,cl⟩=true) (hl : lastM ⟨⟨A,nx⟩,K,R,tg,cl⟩=false) :
  Calls Tryz.prog 32 #[.agg #[sa,.int .i64 nx,ss,sr,.int .i64 tg,.int .i64 cl]] w fun e w'=>e = .returned (.int .i64 (monErr ⟨⟨A,nx⟩,K,R,tg,cl⟩))∧Ext w w':=by
 obtain ⟨aa,ac,rfl,hac,hacm,-⟩:=hA.form
 obtain ⟨ka,kc,rfl,hkc,hkcm,-⟩:=hK.form
 obtain ⟨ra,rc,rfl,hrc,hrcm,-⟩:=hR.form
 unfold maxLen at hacm hkcm hrcm
 have hE0:=(Ext.refl w).alloc (.cells #[.slice aa A.length ac,.int .i64 nx,.slice ka K.length kc,.slice ra R.length rc,.int .i64 tg,.int .i64 cl] 28)
 have bM:=Box.new w 28 #[.slice aa A.length ac,.int .i64 nx,.slice ka K.length kc,.slice ra R.length rc,.int .i64 tg,.int .i64 cl]
 replace hA:=Lib.hid (hA.ext hE0);replace hK:=Lib.hid (hK.ext hE0);replace hR:=Lib.hid (hR.ext hE0)
 obtain ⟨⟨⟨⟨h1,h2⟩,h3⟩,h4⟩,h5⟩:=headM_parts hh
 have q1:=Lib.hid (memErr_ok h1)
 have g1 : (K.length != A.length)=false:=by rw [bne,h2];rfl
 have g2 : ((K.length : Int) != (A.length : Int))=false:=by have:=eq_of_beq h2;rw [this];simp
 have h2e:=Lib.hid (eq_of_beq h2)
 have q3:=Lib.hid h3
 have q4:=Lib.hid h4
 have q5:=Lib.hid (runErr_ok h5)
 have hRl:=okR_len h5
 have w1 : IntKind.i64.wrap ((R.length : Int) - 1)=(R.length : Int) - 1:=IntWalk.i64_in _ (by omega)
 have hhead:=Lib.hid hh
 replace h2:=Lib.hid h2
 clear h1 h3 h4 h5 hh
 have hz : R.length≠0:=fun e=>by simp [lastM,e] at hl
 obtain ⟨rb,ro,rfl,_,rc0⟩:=hR.out.cell (last_is hz)
 have z1 : decide (0 < R.length)=true:=decide_eq_true (by omega)
 have z2 : (0 : Int)≤(R.length : Int) - 1:=by omega
 have z3 : (R.length : Int) - 1 < (R.length : Int):=by omega
 have z4 : ((R.length : Int) - 1).toNat=R.length - 1:=by omega
 obtain ⟨last,hlast⟩ : ∃ x,lastR R=x:=⟨_,rfl⟩
 rw [hlast] at rc0
 have hge : decide (cl≤last)=true:=decide_eq_true (by have h:=hl;simp only [lastM,hlast,Bool.or_eq_false_iff,decide_eq_false_iff_not] at h;omega)
 have hres:=Lib.hid (monErr_last hl)
 replace hlast:=Lib.hid hlast
 clear hl hz
 go_enter Tryz.func32,Tryz.ntmps32
 have m0 : World.cell? (World.alloc w (.cells #[.slice aa A.length ac,.int .i64 nx,.slice ka K.length kc,.slice (some ⟨rb,ro,none⟩) R.length rc,.int .i64 tg,.int .i64 cl] 28)) ⟨w.heap.size,0,none⟩=some (.slice aa A.length ac):=bM.cell 0
 have m1 : World.cell? (World.alloc w (.cells #[.slice aa A.length ac,.int .i64 nx,.slice ka K.length kc,.slice (some ⟨rb,ro,none⟩) R.length rc,.int .i64 tg,.int .i64 cl] 28)) ⟨w.heap.size,1,none⟩=some (.int .i64 nx):=bM.cell 1
 have m2 : World.cell? (World.alloc w (.cells #[.slice aa A.length ac,.int .i64 nx,.slice ka K.length kc,.slice (some ⟨rb,ro,none⟩) R.length rc,.int .i64 tg,.int .i64 cl] 28)) ⟨w.heap.size,2,none⟩=some (.slice ka K.length kc):=bM.cell 2
 have m3 : World.cell? (World.alloc w (.cells #[.slice aa A.length ac,.int .i64 nx,.slice ka K.length kc,.slice (some ⟨rb,ro,none⟩) R.length rc,.int .i64 tg,.int .i64 cl] 28)) ⟨w.heap.size,3,none⟩=some (.slice (some ⟨rb,ro,none⟩) R.length rc):=bM.cell 3
 have m4 : World.cell? (World.alloc w (.cells #[.slice aa A.length ac,.int .i64 nx,.slice ka K.length kc,.slice (some ⟨rb,ro,none⟩) R.length rc,.int .i64 tg,.int .i64 cl] 28)) ⟨w.heap.size,4,none⟩=some (.int .i64 tg):=bM.cell 4
 have m5 : World.cell? (World.alloc w (.cells #[.slice aa A.length ac,.int .i64 nx,.slice ka K.length kc,.slice (some ⟨rb,ro,none⟩) R.length rc,.int .i64 tg,.int .i64 cl] 28)) ⟨w.heap.size,5,none⟩=some (.int .i64 cl):=bM.cell 5
 have mlt:=bM.lt
 go_wp2_with fail
 refine (allocs_Check hA.out hn).mono ?_
 rintro e w1 ⟨rfl,hE1⟩
 rw [q1.out]
 clear m0 m1 m2 m3 m4 m5 mlt
 replace bM:=bM.ext hE1
 have m0 : World.cell? w1 ⟨w.heap.size,0,none⟩=some (.slice aa A.length ac):=bM.cell 0
 have m1 : World.cell? w1 ⟨w.heap.size,1,none⟩=some (.int .i64 nx):=bM.cell 1
 have m2 : World.cell? w1 ⟨w.heap.size,2,none⟩=some (.slice ka K.length kc):=bM.cell 2
 have m3 : World.cell? w1 ⟨w.heap.size,3,none⟩=some (.slice (some ⟨rb,ro,none⟩) R.length rc):=bM.cell 3
 have m4 : World.cell? w1 ⟨w.heap.size,4,none⟩=some (.int .i64 tg):=bM.cell 4
 have m5 : World.cell? w1 ⟨w.heap.size,5,none⟩=some (.int .i64 cl):=bM.cell 5
 have mlt:=bM.lt
 go_wp2_with fail
 refine (mon_counted tg _).mono ?_
 rintro e w2 ⟨rfl,rfl⟩
 rw [q3.out]
 go_wp2_with fail
 refine (mon_counted cl _).mono ?_
 rintro e w3 ⟨rfl,rfl⟩
 rw [q4.out]
 go_wp2_with fail
 refine (guard_Check (hR.out.ext hE1)).mono ?_
 rintro e w4 ⟨rfl,rfl⟩
 rw [q5.out]
 replace rc0:=Ext.cell hE1 rc0
 go_wp2
 go_quiet (fail)
 go_wp2
 go_ret
 rw [hres.out]
 exact ⟨rfl,Ext.trans hE0 (Ext.trans hE1 ((Ext.refl _).drewN _))⟩
end Go.Proofs.YtnplphcnagooeaaGreatDoor
