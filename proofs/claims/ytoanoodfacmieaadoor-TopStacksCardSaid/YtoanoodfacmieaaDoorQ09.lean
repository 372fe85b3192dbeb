/- Several texts in one: CelX1, CelX2, CelX3, Alive26, Oth26, CelP, MonQ, PhsA, PhsB, Close, Door, Law30A, AccF, Law32C, MonY. -/
import Derived.Test.YtoanoodfacmieaaDoorQ08
import Derived.BigQuiet
import Derived.Test.YtoanoodfacmieaaDoorQ07
import Derived.Test.YtoanoodfacmieaaDoorQ04
import Derived.Test.YtoanoodfacmieaaDoorQ01
import Derived.Test.YtoanoodfacmieaaDoorQ03
import Derived.Test.YtoanoodfacmieaaDoorCards
import Derived.Test.YtoanoodfacmieaaDoorTie
import Derived.ProofKit
import Derived.OpenShut
import Derived.Deep.DeepHandedRow
import Derived.Lib.LaidTab
/- Contracts: find of the program, Asked of the reference of layer 27. -/
namespace Go.Proofs.YtoanoodfacmieaaDoor
set_option maxRecDepth 100000
open Go.RowKit
def cutV (s : Value) (o n : Nat) : Value :=
 match s with
 | .slice a _ cap => .slice (if cap=o then a else a.map (·.add (o * 5))) n (cap - o)
 | v=>v
def findV (m : Mem) (vs : List Value) (p : Ptr) (n : Int) : Value :=
 match (askR m p n).1 with
 | none => .slice none 0 0
 | some i=>if (m.al.getD i Alloc.zero).live then cutV (vs.getD i (.slice none 0 0)) p.o.toNat n.toNat else .slice none 0 0
theorem Cls.cut {w : World} {s : Value} {l : List Cell} (h : Cls w s l) (o n : Nat) (hn : o+n≤l.length) : Cls w (cutV s o n) ((l.drop o).take n):=by
 obtain ⟨a,cap,rfl,hc,-⟩:=h.form
 have h1:=Sl.drop h o (by omega)
 rw [rows_drop Cell.row Cell.row_len] at h1
 have h2:=Sl.take h1 n (by omega)
 rw [rows_take Cell.row Cell.row_len] at h2
 unfold Cls cutV
 rw [List.length_take,List.length_drop,Nat.min_eq_left (by omega)]
 exact h2
theorem askR_bad {m : Mem} {p : Ptr} {n : Int} (h : m.ok=false) : askR m p n=(none,8):=by simp [askR,h]
theorem askR_arg {m : Mem} {p : Ptr} {n : Int} (h : m.ok=true) (ha : p.a < 0∨m.next≤p.a∨n < 1∨2 < n) : askR m p n=(none,2):=by simp [askR,h,ha]
theorem askR_none {m : Mem} {p : Ptr} {n : Int} (h : m.ok=true) (ha : ¬ (p.a < 0∨m.next≤p.a∨n < 1∨2 < n)) (hi : atNum m.al p.a=none) : askR m p n=(none,0):=by simp [askR,h,ha,hi]
theorem askR_off {m : Mem} {p : Ptr} {n : Int} {i : Nat} {x : Alloc} (h : m.ok=true) (ha : ¬ (p.a < 0∨m.next≤p.a∨n < 1∨2 < n)) (hi : atNum m.al p.a=some i) (hx : m.al[i]? = some x) (ho : p.o < 0∨(x.cells.length : Int) - n < p.o) : askR m p n=(none,6):=by
 simp [askR,h,ha,hi,List.getD_eq_getElem?_getD,hx,ho]
theorem askR_yes {m : Mem} {p : Ptr} {n : Int} {i : Nat} {x : Alloc} (h : m.ok=true) (ha : ¬ (p.a < 0∨m.next≤p.a∨n < 1∨2 < n)) (hi : atNum m.al p.a=some i) (hx : m.al[i]? = some x) (ho : ¬ (p.o < 0∨(x.cells.length : Int) - n < p.o)) : askR m p n=(some i,0):=by
 simp [askR,h,ha,hi,List.getD_eq_getElem?_getD,hx,ho]
theorem run_slice_mid {P : Program} {t e : TypeId} {i : TypeInfo} (ht : P.underlying t=some (.slice e)) (hi : P.info? e=some i) (h5 : i.size=5) (a : Option Addr) (n cap : Nat) (x y : Int) (o k : Nat) (hx : x=o) (hy : y=(o+k : Nat)) (hk : o+k≤cap) (w : World) :
  (Instr.slice t (.slice a n cap) (some (.int .i64 x)) (some (.int .i64 y)) none).run P w = .ok (cutV (.slice a n cap) o k) w:=by
 subst hx hy
 have h2 : (0 : Int)≤(o : Int)+(k : Int)∧(o : Int)+(k : Int)≤(cap : Int):=by omega
 have h3 : ((o : Int)+(k : Int)).toNat=o+k:=by omega
 simp [Instr.slice,run_underlying ht,Instr.sliceBounds,Instr.sliceBound,asIntOf,h2,h3,sizeOf,typeInfo,hi,h5,cutV]
theorem callFunc_cellsfind (args : Array Value) (w : World) : (callFunc 76 args).run Tryd.prog w = .ok (.enter 76 args) w:=by kernel_rfl
set_option maxHeartbeats 400000 in
theorem cells_find1 (n : Int) (B : Nat) (W : World) (hc : W.cell? ⟨B,0,none⟩=some (.int .i64 n)) : PredA 76 #[.pointer (some ⟨B,0,none⟩)] W (numIs n):=by
 intro x s w hW
 obtain ⟨num,live,cs⟩:=x
 have hcw:=hW.cell hc
 have hB:=World.block_lt_of_cell? _ _ hcw
 have hE:=(Ext.refl w).alloc (.cells #[.int .i64 num,.bool live,s] 101)
 clear hc hW
 show Calls Tryd.prog 76 #[.agg #[.int .i64 num,.bool live,s],.pointer (some ⟨B,0,none⟩)] w _
 go_enter Tryd.func76,Tryd.ntmps76
 go_wp2
 go_ret
 exact ⟨rfl,hE⟩
def RetVE (w : World) (v : Value) (err : Int) (en : Ending) (w' : World) : Prop:=en = .returned (.tuple #[v,.int .i64 err])∧Ext w w'
set_option maxRecDepth 100000 in
set_option maxHeartbeats 3200000 in
theorem cells_find {m : Mem} {vs : List Value} {s : Value} {w : World} (p : Ptr) (n : Int) (hin : All2 (fun s a=>Cls w s a.cells) vs m.al) (hout : Sl w 3 s m.al.length (trows arow vs m.al)) (hn : i64B m.next) :
  Calls Tryd.prog 52 #[.agg #[s,.int .i64 m.next],p.val,.int .i64 n] w (RetVE w (findV m vs p n) (askR m p n).2):=by
 have hl : Als w s m.al:=⟨vs,hin,hout⟩
 obtain ⟨pa,po,pt⟩:=p
 have hE0:=((Ext.refl w).alloc (.cells #[s,.int .i64 m.next] 31)).alloc (.cells #[.int .i64 pa,.int .i64 po,.int .i64 pt] 26)
 obtain ⟨a,cp,rfl,hlc,hcm,-⟩:=hl.form
 unfold maxLen at hcm
 have bM:=(Box.new w 31 #[.slice a m.al.length cp,.int .i64 m.next]).ext ((Ext.refl _).alloc (.cells #[.int .i64 pa,.int .i64 po,.int .i64 pt] 26))
 have bP:=Box.new (w.alloc (.cells #[.slice a m.al.length cp,.int .i64 m.next] 31)) 26 #[.int .i64 pa,.int .i64 po,.int .i64 pt]
 rw [World.size_alloc] at bP
 have hCk:=Lib.hid (allocs_Check (hl.ext hE0) hn)
 have hL:=Lib.hid hl
 have hmf : ∀ (fn : Fn) (first cap : Array Value) (w : World),(Instr.makeFunc fn first cap).run Tryd.prog w = .ok (.func fn first cap) w:=fun _ _ _ _=>rfl
 unfold Ptr.val
 cases hok : m.ok
 ·have hce : Hid (memErr m.al m.next=8):=Hid.mk (memErr_bad hok)
  have hres : Hid (findV m vs ⟨pa,po,pt⟩ n = .slice none 0 0∧(askR m ⟨pa,po,pt⟩ n).2=8):=Hid.mk (by simp [findV,askR_bad hok])
  clear hok hl hin hout
  go_enter Tryd.func52,Tryd.ntmps52
  go_wp2_with fail
  refine hCk.out.mono ?_
  rintro e w1 ⟨rfl,hE1⟩
  rw [hce.out]
  go_wp2
  go_ret2
  rw [hres.out.1,hres.out.2]
  exact ⟨rfl,hE0.trans hE1⟩
 ·have hce : Hid (memErr m.al m.next=0):=Hid.mk (memErr_ok hok)
  have hbn:=ok_bounds hok
  by_cases harg : pa < 0∨m.next≤pa∨n < 1∨2 < n
  ·have hres : Hid (findV m vs ⟨pa,po,pt⟩ n = .slice none 0 0∧(askR m ⟨pa,po,pt⟩ n).2=2):=Hid.mk (by simp [findV,askR_arg (p:=⟨pa,po,pt⟩) hok harg])
   have q : decide (pa < 0)=true∨decide (pa < 0)=false∧decide (m.next≤pa)=true∨decide (pa < 0)=false∧decide (m.next≤pa)=false∧decide (n < 1)=true∨decide (pa < 0)=false∧decide (m.next≤pa)=false∧decide (n < 1)=false∧decide (2 < n)=true:=by
    by_cases h1 : pa < 0
    ·exact .inl (decide_eq_true h1)
    ·by_cases h2 : m.next≤pa
     ·exact .inr (.inl ⟨decide_eq_false h1,decide_eq_true h2⟩)
     ·by_cases h3 : n < 1
      ·exact .inr (.inr (.inl ⟨decide_eq_false h1,decide_eq_false h2,decide_eq_true h3⟩))
      ·exact .inr (.inr (.inr ⟨decide_eq_false h1,decide_eq_false h2,decide_eq_false h3,decide_eq_true (by omega)⟩))
   clear hok hl hin hout harg
   rcases q with q1 | ⟨q1,q2⟩ | ⟨q1,q2,q3⟩ | ⟨q1,q2,q3,q4⟩
   all_goals
    go_enter Tryd.func52,Tryd.ntmps52
    go_wp2_with fail
    refine hCk.out.mono ?_
    rintro e w1 ⟨rfl,hE1⟩
    rw [hce.out]
    have m1 : w1.cell? ⟨w.heap.size,1,none⟩=some (.int .i64 m.next):=(bM.ext hE1).cell 1
    have p0 : w1.cell? ⟨w.heap.size+1,0,none⟩=some (.int .i64 pa):=(bP.ext hE1).cell 0
    go_wp2
    go_ret2
    rw [hres.out.1,hres.out.2]
    exact ⟨rfl,hE0.trans hE1⟩
  ·have q1 : decide (pa < 0)=false:=decide_eq_false (by omega)
   have q2 : decide (m.next≤pa)=false:=decide_eq_false (by omega)
   have q3 : decide (n < 1)=false:=decide_eq_false (by omega)
   have q4 : decide (2 < n)=false:=decide_eq_false (by omega)
   have hn2 : 1≤n∧n≤2:=by omega
   cases hat : atNum m.al pa with
   | none =>
    have hix : Hid (ixM (m.al.findIdx? (numIs pa)) = -1):=Hid.mk (idxM_none hat)
    have hres : Hid (findV m vs ⟨pa,po,pt⟩ n = .slice none 0 0∧(askR m ⟨pa,po,pt⟩ n).2=0):=Hid.mk (by simp [findV,askR_none (p:=⟨pa,po,pt⟩) hok harg hat])
    clear hok hl hin hout harg hat
    go_enter Tryd.func52,Tryd.ntmps52
    go_wp2_with fail
    refine hCk.out.mono ?_
    rintro e w1 ⟨rfl,hE1⟩
    rw [hce.out]
    have hF1:=hE0.trans hE1
    have m0 : w1.cell? ⟨w.heap.size,0,none⟩=some (.slice a m.al.length cp):=(bM.ext hE1).cell 0
    have m1 : w1.cell? ⟨w.heap.size,1,none⟩=some (.int .i64 m.next):=(bM.ext hE1).cell 1
    have p0 : w1.cell? ⟨w.heap.size+1,0,none⟩=some (.int .i64 pa):=(bP.ext hE1).cell 0
    go_wp2_with fail
    refine (indexFunc_alloc callFunc_cellsfind (cells_find1 pa (w.heap.size+1) w1 p0) (hL.out.ext hF1)).mono ?_
    rintro e w2 ⟨rfl,hE2⟩
    rw [hix.out]
    go_wp2
    go_ret2
    rw [hres.out.1,hres.out.2]
    exact ⟨rfl,hF1.trans hE2⟩
   | some i =>
    have hix : Hid (ixM (m.al.findIdx? (numIs pa))=(i : Int)):=Hid.mk (idxM_some hat)
    have hil:=(atNum_lt hat).1
    obtain ⟨x,hx⟩ : ∃ x,m.al[i]? = some x:=⟨m.al[i],by simp [hil]⟩
    have hi2 : decide ((i : Int) < 0)=false:=decide_eq_false (by omega)
    have hi0 : (0 : Int)≤(i : Int):=by omega
    have hi1 : (i : Int) < (m.al.length : Int):=by omega
    obtain ⟨sv,hsv,hcl⟩:=hin.get hx
    obtain ⟨b,off,e,hbb,hcell⟩:=Sl.at hout (by omega) (by omega : 0 < m.al.length)
    subst e
    obtain ⟨ca,ccp,rfl,hcl1,hcl2,-⟩:=hcl.form
    unfold maxLen at hcl2
    have d : ∀ j u,(arow (.slice ca x.cells.length ccp) x)[j]? = some u→w.cell? ⟨b,off+(i * 3+j),none⟩=some u:=fun j u hj=>hcell _ u ((trows_get arow arow_len hsv hx (by have:=(List.getElem?_eq_some_iff.1 hj).1;simpa [arow_len] using this)).trans hj)
    have d0 : w.cell? ⟨b,off+i * 3,none⟩=some (.int .i64 x.num):=d 0 _ rfl
    have d1 : w.cell? ⟨b,off+i * 3+1,none⟩=some (.bool x.live):=d 1 _ rfl
    have d2 : w.cell? ⟨b,off+i * 3+2,none⟩=some (.slice ca x.cells.length ccp):=d 2 _ rfl
    have hx2 : x.cells.length≤1000000:=(small_of_ok hok).2 x (List.mem_of_getElem? hx)
    have hvd : vs.getD i (.slice none 0 0) = .slice ca x.cells.length ccp:=by rw [List.getD_eq_getElem?_getD,hsv];rfl
    by_cases ho : po < 0∨(x.cells.length : Int) - n < po
    ·have hres : Hid (findV m vs ⟨pa,po,pt⟩ n = .slice none 0 0∧(askR m ⟨pa,po,pt⟩ n).2=6):=Hid.mk (by simp [findV,askR_off (p:=⟨pa,po,pt⟩) hok harg hat hx ho])
     have q5 : decide (po < 0)=true∨decide (po < 0)=false∧decide ((x.cells.length : Int) - n < po)=true:=by
      by_cases h : po < 0
      ·exact .inl (decide_eq_true h)
      ·exact .inr ⟨decide_eq_false h,decide_eq_true (by omega)⟩
     have hH:=Lib.hid (And.intro d0 (And.intro d1 d2))
     clear hok hl hin hout harg hat hx hsv hcl hcell d d0 d1 d2 ho hvd
     rcases q5 with q5 | ⟨q5,q6⟩
     all_goals
      go_enter Tryd.func52,Tryd.ntmps52
      go_wp2_with fail
      refine hCk.out.mono ?_
      rintro e w1 ⟨rfl,hE1⟩
      rw [hce.out]
      have hF1:=hE0.trans hE1
      have m0 : w1.cell? ⟨w.heap.size,0,none⟩=some (.slice (some ⟨b,off,none⟩) m.al.length cp):=(bM.ext hE1).cell 0
      have m1 : w1.cell? ⟨w.heap.size,1,none⟩=some (.int .i64 m.next):=(bM.ext hE1).cell 1
      have p0 : w1.cell? ⟨w.heap.size+1,0,none⟩=some (.int .i64 pa):=(bP.ext hE1).cell 0
      go_wp2_with fail
      refine (indexFunc_alloc callFunc_cellsfind (cells_find1 pa (w.heap.size+1) w1 p0) (hL.out.ext hF1)).mono ?_
      rintro e w2 ⟨rfl,hE2⟩
      rw [hix.out]
      have hF2:=hF1.trans hE2
      have n0:=hE2.cell m0
      have o1 : w2.cell? ⟨w.heap.size+1,1,none⟩=some (.int .i64 po):=((bP.ext hE1).ext hE2).cell 1
      have ol:=((bP.ext hE1).ext hE2).lt
      have e0:=hF2.cell hH.out.1
      have e1:=hF2.cell hH.out.2.1
      have e2:=hF2.cell hH.out.2.2
      clear m0 m1 p0
      go_wp2
      go_ret2
      rw [hres.out.1,hres.out.2]
      exact ⟨rfl,hF2.alloc _⟩
    ·have q5 : decide (po < 0)=false:=decide_eq_false (by omega)
     have q6 : decide ((x.cells.length : Int) - n < po)=false:=decide_eq_false (by omega)
     have hask:=askR_yes (p:=⟨pa,po,pt⟩) hok harg hat hx ho
     have hgd : m.al.getD i Alloc.zero=x:=by rw [List.getD_eq_getElem?_getD,hx];rfl
     obtain ⟨o,rfl⟩ : ∃ o : Nat,po=(o : Int):=⟨po.toNat,by omega⟩
     obtain ⟨k,rfl⟩ : ∃ k : Nat,n=(k : Int):=⟨n.toNat,by omega⟩
     have hok2 : o+k≤x.cells.length:=by omega
     obtain ⟨ci,cz,hci,hcz,hci3,hcz3,hcby⟩:=Cell.infoE
     have hcut:=run_slice_mid (P:=Tryd.prog) Tryd.underlying24 hci hci3 ca x.cells.length ccp (o : Int) ((o : Int)+(k : Int)) o k rfl (by omega) (by omega)
     obtain ⟨cv,hcv⟩ : ∃ cv,cutV (.slice ca x.cells.length ccp) o k=cv:=⟨_,rfl⟩
     rw [hcv] at hcut
     have hres : Hid (findV m vs ⟨pa,o,pt⟩ k=(if x.live then cv else .slice none 0 0)∧(askR m ⟨pa,o,pt⟩ k).2=0):=Hid.mk (by
      refine ⟨?_,by rw [hask]⟩
      unfold findV
      rw [hask]
      show (if (m.al.getD i Alloc.zero).live=true then cutV (vs.getD i (.slice none 0 0)) (Int.toNat (o : Int)) (Int.toNat (k : Int)) else _)=_
      rw [hgd,hvd,Int.toNat_natCast,Int.toNat_natCast,hcv])
     have hsb : 0≤(o : Int):=by omega
     have hsb2 : (o : Int)+(k : Int)≤2000000:=by omega
     have hH:=Lib.hid (And.intro d0 (And.intro d1 d2))
     clear hok hl hin hout harg hat hx hsv hcl hcell d d0 d1 d2 ho hvd hask hgd hci hcz hci3 hcz3 hcby hcv
     cases hlv : x.live
     all_goals
      have hlv':=Lib.hid hlv
      rw [hlv] at hres
      clear hlv
      go_enter Tryd.func52,Tryd.ntmps52
      go_wp2_with fail
      refine hCk.out.mono ?_
      rintro e w1 ⟨rfl,hE1⟩
      rw [hce.out]
      have hF1:=hE0.trans hE1
      have m0 : w1.cell? ⟨w.heap.size,0,none⟩=some (.slice (some ⟨b,off,none⟩) m.al.length cp):=(bM.ext hE1).cell 0
      have m1 : w1.cell? ⟨w.heap.size,1,none⟩=some (.int .i64 m.next):=(bM.ext hE1).cell 1
      have p0 : w1.cell? ⟨w.heap.size+1,0,none⟩=some (.int .i64 pa):=(bP.ext hE1).cell 0
      go_wp2_with fail
      refine (indexFunc_alloc callFunc_cellsfind (cells_find1 pa (w.heap.size+1) w1 p0) (hL.out.ext hF1)).mono ?_
      rintro e w2 ⟨rfl,hE2⟩
      rw [hix.out]
      have hF2:=hF1.trans hE2
      have n0:=hE2.cell m0
      have o1 : w2.cell? ⟨w.heap.size+1,1,none⟩=some (.int .i64 (o : Int)):=((bP.ext hE1).ext hE2).cell 1
      have ol:=((bP.ext hE1).ext hE2).lt
      have e0:=hF2.cell hH.out.1
      have e1:=hF2.cell hH.out.2.1
      rw [hlv'.out] at e1
      have e2:=hF2.cell hH.out.2.2
      clear m0 m1 p0
      go_wp2
      go_ret2
      rw [hres.out.1,hres.out.2]
      exact ⟨rfl,hF2.alloc _⟩
end Go.Proofs.YtoanoodfacmieaaDoor

/- Contracts: Asked of the reference of layer 27. -/
namespace Go.Proofs.YtoanoodfacmieaaDoor
set_option maxRecDepth 100000
open Go.RowKit
end Go.Proofs.YtoanoodfacmieaaDoor

/- Contracts: LoadAll and Load of layer 27, the program's and the reference's. -/
namespace Go.Proofs.YtoanoodfacmieaaDoor
set_option maxRecDepth 100000
open Go.RowKit
theorem loadR_err {m : Mem} {p : Ptr} {n err : Int} (h : (askR m p n).2=err) (he : err≠0) : loadR m p n=([],0,err):=by
 subst h
 rw [loadR,if_neg he]
theorem rangeR_none {m : Mem} {p : Ptr} {n e : Int} (h : askR m p n=(none,e)) : rangeR m p n=[]:=by rw [rangeR,h]
theorem rangeR_dead {m : Mem} {p : Ptr} {n e : Int} {i : Nat} {x : Alloc} (h : askR m p n=(some i,e)) (hx : m.al[i]? = some x) (hl : x.live=false) : rangeR m p n=[]:=by
 have hg : m.al.getD i Alloc.zero=x:=by rw [List.getD_eq_getElem?_getD,hx];rfl
 rw [rangeR,h]
 show (if (m.al.getD i Alloc.zero).live=true then _ else _)=_
 rw [hg,hl]
 rfl
theorem rangeR_live {m : Mem} {p : Ptr} {n e : Int} {i : Nat} {x : Alloc} (h : askR m p n=(some i,e)) (hx : m.al[i]? = some x) (hl : x.live=true) : rangeR m p n=cutOf x p.o.toNat n.toNat:=by
 have hg : m.al.getD i Alloc.zero=x:=by rw [List.getD_eq_getElem?_getD,hx];rfl
 rw [rangeR,h]
 show (if (m.al.getD i Alloc.zero).live=true then cutOf (m.al.getD i Alloc.zero) _ _ else _)=_
 rw [hg,hl]
 rfl
theorem loadR_gone {m : Mem} {p : Ptr} {n : Int} (h : (askR m p n).2=0) (hr : rangeR m p n=[]) : loadR m p n=([],3,0):=by
 rw [loadR,if_pos h,if_pos hr]
theorem loadR_unset {m : Mem} {p : Ptr} {n : Int} (h : (askR m p n).2=0) (hr : rangeR m p n≠[]) (hz : (rangeR m p n).any (· == Cell.zero)=true) : loadR m p n=([],4,0):=by
 rw [loadR,if_pos h,if_neg hr,if_pos hz]
theorem loadR_yes {m : Mem} {p : Ptr} {n : Int} (h : (askR m p n).2=0) (hr : rangeR m p n≠[]) (hz : (rangeR m p n).any (· == Cell.zero)=false) : loadR m p n=(rangeR m p n,0,0):=by
 rw [loadR,if_pos h,if_neg hr,hz]
 rfl
theorem askR_inv {m : Mem} {p : Ptr} {n e : Int} {i : Nat} (h : askR m p n=(some i,e)) :
  e=0∧m.ok=true∧0≤p.a∧p.a < m.next∧1≤n∧n≤2∧atNum m.al p.a=some i ∧ ∃ x,m.al[i]? = some x∧0≤p.o∧p.o+n≤(x.cells.length : Int):=by
 unfold askR at h
 split at h
 ·rename_i hok
  split at h
  ·cases h
  ·rename_i harg
   split at h
   ·cases h
   ·rename_i j hj
    split at h
    ·cases h
    ·rename_i ho
     simp only [Prod.mk.injEq,Option.some.injEq] at h
     obtain ⟨rfl,rfl⟩:=h
     have hlt:=(atNum_lt hj).1
     have hg : m.al.getD j Alloc.zero=m.al[j]:=by rw [List.getD_eq_getElem?_getD,List.getElem?_eq_getElem hlt];rfl
     rw [hg] at ho
     exact ⟨rfl,hok,by omega,by omega,by omega,by omega,hj,m.al[j],List.getElem?_eq_getElem hlt,by omega,by omega⟩
 ·cases h
theorem cutOf_len {x : Alloc} {o n : Nat} (h : o+n≤x.cells.length) : (cutOf x o n).length=n:=by
 rw [cutOf,List.length_take,List.length_drop]
 omega
def RetOC (w : World) (l : List Cell) (why err : Int) (en : Ending) (w' : World) : Prop :=
 ∃ v,en = .returned (.tuple #[v,.int .u8 why,.int .i64 err])∧Own w' w.heap.size 28 5 v l.length (l.flatMap Cell.row)∧Ext w w'
set_option maxHeartbeats 3200000 in
theorem run_eql_cells (x y : Cell) (w : World) : (binOp .eql 28 x.val y.val).run Tryd.prog w = .ok (.bool (decide (x=y))) w:=by
 obtain ⟨k,n,a,o,t⟩:=x
 obtain ⟨k',n',a',o',t'⟩:=y
 unfold Cell.val
 go_simp
 by_cases h1 : k=k' <;> by_cases h2 : n=n' <;> by_cases h3 : a=a' <;> by_cases h4 : o=o' <;> by_cases h5 : t=t' <;> simp [h1,h2,h3,h4,h5]
theorem run_eql_zero (x : Cell) (w : World) : (binOp .eql 28 Cell.zero.val x.val).run Tryd.prog w = .ok (.bool (x == Cell.zero)) w:=by
 have e : (x == Cell.zero)=decide (Cell.zero=x):=by
  rw [Bool.eq_iff_iff,beq_iff_eq,decide_eq_true_iff]
  exact eq_comm
 rw [run_eql_cells,e]
set_option maxHeartbeats 800000 in
theorem index_zero {l : List Cell} {v : Value} {w : World} (hl : Cls w v l) :
  Calls Tryd.prog 78 #[v,Cell.zero.val] w fun e w'=>e = .returned (.int .i64 (ixM (l.findIdx? (· == Cell.zero))))∧Ext w w':=by
 have hE0:=(Ext.refl w).alloc (.cells #[.int .u8 0,.int .i64 0,.int .i64 0,.int .i64 0,.int .i64 0] 28)
 have hL:=Lib.hid (hl.ext hE0)
 obtain ⟨a,cp,rfl,hlc,hcm,-⟩:=hl.form
 unfold maxLen at hcm
 have hB:=Box.new w 28 #[.int .u8 0,.int .i64 0,.int .i64 0,.int .i64 0,.int .i64 0]
 clear hl
 rw [show Cell.zero.val = .agg #[.int .u8 0,.int .i64 0,.int .i64 0,.int .i64 0,.int .i64 0] from rfl]
 go_enter Tryd.func78,Tryd.ntmps78
 go_wp2
 obtain ⟨w1,hw1⟩ : ∃ w1,w.alloc (.cells #[.int .u8 0,.int .i64 0,.int .i64 0,.int .i64 0,.int .i64 0] 28)=w1:=⟨_,rfl⟩
 rw [hw1] at hE0 hL hB ⊢
 clear hw1
 go_loopw [8] (fun i wr => ∃ k : Nat,k≤l.length∧i = .int .i64 k∧Ext w1 wr∧Hid ((l.take k).any (· == Cell.zero)=false)) (fun i _=>l.length - (intOf i).toNat)
 case atStart=>exact ⟨0,Nat.zero_le _,rfl,Ext.refl _,by simp [Hid]⟩
 case round =>
  obtain ⟨k,hk,rfl,hE,hN⟩:=hrel
  have z0 : wr.cell? ⟨w.heap.size,0,none⟩=some (.int .u8 0):=(hB.ext hE).cell 0
  have z1 : wr.cell? ⟨w.heap.size,1,none⟩=some (.int .i64 0):=(hB.ext hE).cell 1
  have z2 : wr.cell? ⟨w.heap.size,2,none⟩=some (.int .i64 0):=(hB.ext hE).cell 2
  have z3 : wr.cell? ⟨w.heap.size,3,none⟩=some (.int .i64 0):=(hB.ext hE).cell 3
  have z4 : wr.cell? ⟨w.heap.size,4,none⟩=some (.int .i64 0):=(hB.ext hE).cell 4
  by_cases hlt : k < l.length
  ·obtain ⟨x,hx⟩ : ∃ x,l[k]? = some x:=⟨l[k],by simp [hlt]⟩
   obtain ⟨b,off,rfl,hbb,c0,c1,c2,c3,c4⟩:=(hL.out.ext hE).cell hx
   have hX:=Lib.hid hx
   clear hx
   have hi0 : (0 : Int)≤(k : Int):=by omega
   have hi1 : (k : Int) < (l.length : Int):=by omega
   have hn:=run_eql_zero x
   unfold Cell.val Cell.zero at hn
   cases hpx : x == Cell.zero
   all_goals
    have hP:=Lib.hid hpx
    rw [show (x == ({ k:=0,n:=0,a:=0,o:=0,t:=0 } : Cell))=_ from hpx] at hn
    clear hpx
    go_wp2
    go_quiet (fail)
    go_wp2
   ·go_roundw
    case rel=>exact ⟨k+1,by omega,by go_num,hE.drewN _,any_take_succ'' hN.out hX.out hP.out⟩
    case measure=>simp [intOf];omega
   ·go_ret
    refine ⟨?_,hE0.trans (hE.drewN _)⟩
    have : l.findIdx? (· == Cell.zero)=some k:=by
     rw [List.findIdx?_eq_some_iff_getElem]
     obtain ⟨hk,rfl⟩:=List.getElem?_eq_some_iff.1 hX.out
     refine ⟨hk,hP.out,fun j hj => ?_⟩
     have h:=hN.out
     simp only [List.any_eq_false] at h
     have:=h l[j] (by rw [List.mem_iff_getElem?];exact ⟨j,by rw [List.getElem?_take,if_pos hj];simp⟩)
     simpa using this
    rw [this];rfl
  ·have hkl : k=l.length:=by omega
   subst hkl
   have hN':=hN.out
   rw [List.take_length] at hN'
   have hg : Hid (l.findIdx? (· == Cell.zero)=none):=Hid.mk (by rw [List.findIdx?_eq_none_iff];simpa [List.any_eq_false] using hN')
   clear hN' z0 z1 z2 z3 z4
   go_wp2
   go_ret
   exact ⟨by rw [hg.out];rfl,hE0.trans hE⟩
theorem ixM_any {l : List Cell} : decide (0≤ixM (l.findIdx? (· == Cell.zero)))=l.any (· == Cell.zero):=by
 cases h : l.findIdx? (· == Cell.zero) with
 | none =>
  have h' : l.any (· == Cell.zero)=false:=by rw [List.findIdx?_eq_none_iff] at h;simpa [List.any_eq_false] using h
  rw [h'];simp [ixM]
 | some i =>
  have h' : l.any (· == Cell.zero)=true:=by
   rw [List.findIdx?_eq_some_iff_getElem] at h
   obtain ⟨hi,hp,_⟩:=h
   rw [List.any_eq_true]
   exact ⟨l[i],List.getElem_mem _,hp⟩
  rw [h'];simp [ixM]
set_option maxHeartbeats 400000 in
theorem contains_zero {l : List Cell} {v : Value} {w : World} (hl : Cls w v l) :
  Calls Tryd.prog 60 #[v,Cell.zero.val] w fun e w'=>e = .returned (.bool (l.any (· == Cell.zero)))∧Ext w w':=by
 have hE0:=(Ext.refl w).alloc (.cells #[.int .u8 0,.int .i64 0,.int .i64 0,.int .i64 0,.int .i64 0] 28)
 have hC:=Lib.hid (index_zero (hl.ext hE0))
 have hA:=Lib.hid (ixM_any (l:=l))
 obtain ⟨a,cp,rfl,-⟩:=hl.form
 unfold Cell.val Cell.zero at *
 clear hl
 go_enter Tryd.func60,Tryd.ntmps60
 go_wp2_with fail
 refine hC.out.mono ?_
 rintro e w' ⟨rfl,hE'⟩
 go_wp2
 go_ret
 exact ⟨by rw [← hA.out];rfl,hE0.trans hE'⟩
theorem findV_read {m : Mem} {vs : List Value} {w : World} (p : Ptr) (n : Int) (hin : All2 (fun s a=>Cls w s a.cells) vs m.al) : Cls w (findV m vs p n) (rangeR m p n):=by
 unfold findV rangeR
 cases h : (askR m p n).1 with
 | none=>exact Cls.nil w
 | some i =>
  obtain ⟨-,-,-,-,h1,h2,-,x,hx,h3,h4⟩:=askR_inv (e:=(askR m p n).2) (by rw [← h])
  obtain ⟨s,hs,hc⟩:=hin.get hx
  have hg : m.al.getD i Alloc.zero=x:=by rw [List.getD_eq_getElem?_getD,hx];rfl
  have hv : vs.getD i (.slice none 0 0)=s:=by rw [List.getD_eq_getElem?_getD,hs];rfl
  show Cls w (if (m.al.getD i Alloc.zero).live=true then cutV (vs.getD i (.slice none 0 0)) p.o.toNat n.toNat else _) (if (m.al.getD i Alloc.zero).live=true then cutOf (m.al.getD i Alloc.zero) p.o.toNat n.toNat else [])
  rw [hg,hv]
  cases x.live
  ·exact Cls.nil w
  ·exact hc.cut _ _ (by omega)
theorem rangeR_small {m : Mem} {p : Ptr} {n : Int} : (rangeR m p n).length≤2:=by
 unfold rangeR
 cases h : (askR m p n).1 with
 | none=>simp
 | some i =>
  obtain ⟨-,-,-,-,h1,h2,-,x,hx,h3,h4⟩:=askR_inv (e:=(askR m p n).2) (by rw [← h])
  show (if (m.al.getD i Alloc.zero).live=true then cutOf (m.al.getD i Alloc.zero) p.o.toNat n.toNat else []).length≤2
  split
  ·rw [cutOf,List.length_take];omega
  ·simp
set_option maxRecDepth 100000 in
set_option maxHeartbeats 1600000 in
theorem cells_LoadAll {m : Mem} {s : Value} {w : World} (p : Ptr) (n : Int) (hl : Als w s m.al) (hn : i64B m.next) :
  Calls Tryd.prog 27 #[.agg #[s,.int .i64 m.next],p.val,.int .i64 n] w (RetOC w (loadR m p n).1 (loadR m p n).2.1 (loadR m p n).2.2):=by
 obtain ⟨vs,hin,hout⟩:=hl
 have hE0:=((Ext.refl w).alloc (.cells #[s,.int .i64 m.next] 31)).alloc (.cells #[.int .i64 p.a,.int .i64 p.o,.int .i64 p.t] 26)
 have hin0 : All2 (fun u a=>Cls ((w.alloc (.cells #[s,.int .i64 m.next] 31)).alloc (.cells #[.int .i64 p.a,.int .i64 p.o,.int .i64 p.t] 26)) u a.cells) vs m.al:=hin.mono fun _ _ h=>Cls.ext h hE0
 have hC:=Lib.hid (cells_find p n hin0 (hout.ext hE0) hn)
 have hR:=Lib.hid (findV_read p n hin0)
 obtain ⟨a,cp,rfl,-⟩:=hout.slice_form
 obtain ⟨fv,hfv⟩ : ∃ fv,findV m vs p n=fv:=⟨_,rfl⟩
 rw [hfv] at hC hR
 obtain ⟨err,herr⟩ : ∃ err,(askR m p n).2=err:=⟨_,rfl⟩
 rw [herr] at hC
 have hsm:=Lib.hid (rangeR_small (m:=m) (p:=p) (n:=n))
 clear hfv hin hin0 hout
 by_cases he : err=0
 ·subst he
  by_cases hr : rangeR m p n=[]
  ·have hres:=Lib.hid (loadR_gone herr hr)
   have hR0:=hR.out
   rw [hr] at hR0
   obtain ⟨ra,rc,rfl,-⟩:=hR0.form
   clear hR hR0 hr herr
   unfold Ptr.val at *
   go_enter Tryd.func27,Tryd.ntmps27
   go_wp2_with fail
   refine hC.out.mono ?_
   rintro e w1 ⟨rfl,hE1⟩
   dsimp only [List.length_nil]
   go_wp2
   go_ret3
   rw [hres.out]
   exact ⟨_,rfl,Own.nil _ _ _ _,hE0.trans hE1⟩
  ·have hlen : 0 < (rangeR m p n).length:=List.length_pos_iff.2 hr
   have hld : ((rangeR m p n).length == 0)=false:=by simp;exact hr
   obtain ⟨ra,rc,hre,-⟩:=hR.out.form
   have hld' : (((rangeR m p n).length : Int) == 0)=false:=by simp;exact hr
   subst hre
   cases hz : (rangeR m p n).any (· == Cell.zero)
   ·have hres:=Lib.hid (loadR_yes herr hr hz)
    have hz':=Lib.hid hz
    obtain ⟨L,hL⟩ : ∃ L,rangeR m p n=L:=⟨_,rfl⟩
    rw [hL] at hR hz' hsm hres hC hlen hld hld'
    clear hr herr hz hL
    unfold Ptr.val at *
    go_enter Tryd.func27,Tryd.ntmps27
    go_wp2_with fail
    refine hC.out.mono ?_
    rintro e w1 ⟨rfl,hE1⟩
    go_wp2_with fail
    refine (contains_zero (hR.out.ext hE1)).mono ?_
    rintro e w2 ⟨rfl,hE2⟩
    rw [hz'.out]
    go_wp2_with fail
    refine (clone_Cells ((hR.out.ext hE1).ext hE2) (Cell.one L) (Nat.le_trans hsm.out (by omega))).mono ?_
    rintro e w3 ⟨v,rfl,hO,hE3⟩
    have hF:=(hE0.trans hE1).trans hE2
    obtain ⟨va,vc,rfl,-⟩:=hO.sl.slice_form
    go_wp2
    go_ret3
    rw [hres.out]
    exact ⟨_,rfl,hO.mono hF.size,hF.trans hE3⟩
   ·have hres:=Lib.hid (loadR_unset herr hr hz)
    have hz':=Lib.hid hz
    obtain ⟨L,hL⟩ : ∃ L,rangeR m p n=L:=⟨_,rfl⟩
    rw [hL] at hR hz' hsm hC hlen hld hld'
    clear hr herr hz hL
    unfold Ptr.val at *
    go_enter Tryd.func27,Tryd.ntmps27
    go_wp2_with fail
    refine hC.out.mono ?_
    rintro e w1 ⟨rfl,hE1⟩
    go_wp2_with fail
    refine (contains_zero (hR.out.ext hE1)).mono ?_
    rintro e w2 ⟨rfl,hE2⟩
    rw [hz'.out]
    go_wp2
    go_ret3
    rw [hres.out]
    exact ⟨_,rfl,Own.nil _ _ _ _,(hE0.trans hE1).trans hE2⟩
 ·have hres:=Lib.hid (loadR_err herr he)
  have q : (err != 0)=true:=by simp [he]
  have q' : (err == 0)=false:=by simp [he]
  obtain ⟨ra,rc,hre,-⟩:=hR.out.form
  subst hre
  clear hR he herr
  unfold Ptr.val at *
  go_enter Tryd.func27,Tryd.ntmps27
  go_wp2_with fail
  refine hC.out.mono ?_
  rintro e w1 ⟨rfl,hE1⟩
  go_wp2
  go_ret3
  rw [hres.out]
  exact ⟨_,rfl,Own.nil _ _ _ _,hE0.trans hE1⟩
end Go.Proofs.YtoanoodfacmieaaDoor

/- The example of layer 26. -/
namespace Go.Proofs.YtoanoodfacmieaaDoor
set_option maxRecDepth 100000
open Go.RowKit
end Go.Proofs.YtoanoodfacmieaaDoor

/- Contract: others of the statements of layer 26; what Add and End leave aas it is. -/
namespace Go.Proofs.YtoanoodfacmieaaDoor
set_option maxRecDepth 100000
open Go.RowKit
theorem ok_al {m : Mem} (h : m.ok=true) : okAl m.next 0 m.al=true:=by
 unfold Mem.ok okM at h
 simp only [Bool.and_eq_true] at h
 exact h.2
theorem okAl_set {next least : Int} {l : List Alloc} {i : Nat} {x : Alloc} (h : okAl next least l=true) (hx : l[i]? = some x) : okAl next least (l.set i (ended x))=true:=by
 induction l generalizing least i with
 | nil=>simp at hx
 | cons a l ih =>
  simp only [okAl,Bool.and_eq_true,decide_eq_true_eq] at h
  cases i with
  | zero =>
   simp only [List.getElem?_cons_zero,Option.some.injEq] at hx
   subst hx
   have hc : (ended a).cells.all (fun c=>c.ok && ((ended a).live || c.k == 0))=true:=by
    simp only [ended,List.all_eq_true]
    intro c hc
    rw [List.eq_of_mem_replicate hc]
    rfl
   rw [List.set_cons_zero]
   simp only [okAl,hc,Bool.and_true,Bool.and_eq_true,decide_eq_true_eq]
   refine ⟨⟨⟨⟨h.1.1.1.1.1,h.1.1.1.1.2⟩,?_⟩,?_⟩,h.2⟩
   ·simpa [ended] using h.1.1.1.2
   ·simpa [ended] using h.1.1.2
  | succ i =>
   rw [List.set_cons_succ]
   simp only [okAl,Bool.and_eq_true,decide_eq_true_eq]
   exact ⟨h.1,ih h.2 (by simpa using hx)⟩
theorem ok_ended {m : Mem} {i : Nat} {x : Alloc} (h : m.ok=true) (hx : m.al[i]? = some x) : (⟨m.al.set i (ended x),m.next⟩ : Mem).ok=true:=by
 have h4:=okAl_set (ok_al h) hx
 unfold Mem.ok okM at h ⊢
 simp only [Bool.and_eq_true,decide_eq_true_eq] at h ⊢
 exact ⟨⟨by simpa using h.1.1,h.1.2⟩,h4⟩
end Go.Proofs.YtoanoodfacmieaaDoor

/- Plain laws of layers 26 and 27: what a store leaves, and what is loaded afterwards; no program is walked. -/
namespace Go.Proofs.YtoanoodfacmieaaDoor
set_option maxRecDepth 100000
open Go.RowKit
theorem put_len {x : Alloc} {o : Nat} {l : List Cell} (h : o+l.length≤x.cells.length) : (putCells x o l).cells.length=x.cells.length:=by
 simp only [putCells,List.length_append,List.length_take,List.length_drop]
 omega
theorem storeR_err {m : Mem} {p : Ptr} {l : List Cell} {err : Int} (h : (askR m p l.length).2=err) (he : err≠0) : storeR m p l=(Mem.zero,0,err):=by
 subst h
 rw [storeR,if_neg he]
theorem storeR_bad {m : Mem} {p : Ptr} {l : List Cell} (h : (askR m p l.length).2=0) (hl : l.all Cell.ok=false) : storeR m p l=(Mem.zero,0,8):=by
 rw [storeR,if_pos h,hl]
 rfl
theorem storeR_none {m : Mem} {p : Ptr} {l : List Cell} (h : askR m p l.length=(none,0)) (hl : l.all Cell.ok=true) : storeR m p l=(Mem.zero,3,0):=by
 rw [storeR,h,if_pos rfl,if_pos hl]
theorem storeR_dead {m : Mem} {p : Ptr} {l : List Cell} {i : Nat} {x : Alloc} (h : askR m p l.length=(some i,0)) (hl : l.all Cell.ok=true) (hx : m.al[i]? = some x) (hv : x.live=false) : storeR m p l=(Mem.zero,3,0):=by
 have hg : m.al.getD i Alloc.zero=x:=by rw [List.getD_eq_getElem?_getD,hx];rfl
 rw [storeR,h,if_pos rfl,if_pos hl]
 show (if (m.al.getD i Alloc.zero).live=true then _ else _)=_
 rw [hg,hv]
 rfl
theorem storeR_yes {m : Mem} {p : Ptr} {l : List Cell} {i : Nat} {x : Alloc} (h : askR m p l.length=(some i,0)) (hl : l.all Cell.ok=true) (hx : m.al[i]? = some x) (hv : x.live=true) : storeR m p l=(⟨m.al.set i (putCells x p.o.toNat l),m.next⟩,0,0):=by
 have hg : m.al.getD i Alloc.zero=x:=by rw [List.getD_eq_getElem?_getD,hx];rfl
 rw [storeR,h,if_pos rfl,if_pos hl]
 show (if (m.al.getD i Alloc.zero).live=true then ((⟨storeAt m.al i p.o.toNat l,m.next⟩,0,0) : Mem × Int × Int) else _)=_
 rw [hg,hv,if_pos rfl]
 unfold storeAt
 rw [hx]
theorem storeR_cases (m : Mem) (p : Ptr) (l : List Cell) : (∃ e,storeR m p l=(Mem.zero,0,e)∧e≠0)∨(storeR m p l=(Mem.zero,3,0)∧l.all Cell.ok=true∧(askR m p l.length).2=0∧rangeR m p l.length=[]) ∨
  ∃ i x,askR m p l.length=(some i,0)∧m.al[i]? = some x∧x.live=true∧l.all Cell.ok=true∧storeR m p l=(⟨m.al.set i (putCells x p.o.toNat l),m.next⟩,0,0):=by
 obtain ⟨ix,err,hask⟩ : ∃ ix err,askR m p l.length=(ix,err):=⟨_,_,rfl⟩
 by_cases he : err=0
 ·subst he
  cases hl : l.all Cell.ok
  ·exact .inl ⟨8,storeR_bad (by rw [hask]) hl,by decide⟩
  ·cases ix with
   | none=>exact .inr (.inl ⟨storeR_none hask hl,rfl,by rw [hask],rangeR_none hask⟩)
   | some i =>
    obtain ⟨-,-,-,-,-,-,-,x,hx,-,-⟩:=askR_inv hask
    cases hv : x.live
    ·exact .inr (.inl ⟨storeR_dead hask hl hx hv,rfl,by rw [hask],rangeR_dead hask hx hv⟩)
    ·exact .inr (.inr ⟨i,x,hask,hx,hv,rfl,storeR_yes hask hl hx hv⟩)
 ·exact .inl ⟨err,storeR_err (by rw [hask]) he,he⟩
end Go.Proofs.YtoanoodfacmieaaDoor

/- What the functions of layer 35 on a monitor's memory compute (Load, Store, Retag), and plain laws of it; no program in sight. -/
namespace Go.Proofs.YtoanoodfacmieaaDoor
set_option maxRecDepth 100000
open Go.RowKit
def loadM (m : Mon) (p : Ptr) (n : Int) : Mon × List Cell × Int × Int :=
 if okMon m then
  if (loadR m.mem p n).2.2=0∧(loadR m.mem p n).2.1≠3 then
   match atNum m.mem.al p.a with
   | none=>(Mon.zero,[],3,0)
   | some i =>
    if (use33 (m.stks.getD i Stk.zero) p.o n p.t false m.run).2.1=0 then
     if (loadR m.mem p n).2.1=0 then (⟨m.mem,m.stks.set i (use33 (m.stks.getD i Stk.zero) p.o n p.t false m.run).1,m.run,m.tag,m.call⟩,(loadR m.mem p n).1,0,0)
     else (Mon.zero,[],(loadR m.mem p n).2.1,0)
    else (Mon.zero,[],(use33 (m.stks.getD i Stk.zero) p.o n p.t false m.run).2.1,0)
  else (Mon.zero,[],(loadR m.mem p n).2.1,(loadR m.mem p n).2.2)
 else (Mon.zero,[],0,8)
def storeM (m : Mon) (p : Ptr) (l : List Cell) : Mon × Int × Int :=
 if okMon m then
  if (storeR m.mem p l).2.2=0∧(storeR m.mem p l).2.1=0 then
   match atNum m.mem.al p.a with
   | none=>(Mon.zero,3,0)
   | some i =>
    if (use33 (m.stks.getD i Stk.zero) p.o l.length p.t true m.run).2.1=0 then (⟨(storeR m.mem p l).1,m.stks.set i (use33 (m.stks.getD i Stk.zero) p.o l.length p.t true m.run).1,m.run,m.tag,m.call⟩,0,0)
    else (Mon.zero,(use33 (m.stks.getD i Stk.zero) p.o l.length p.t true m.run).2.1,0)
  else (Mon.zero,(storeR m.mem p l).2.1,(storeR m.mem p l).2.2)
 else (Mon.zero,0,8)
def retagM (m : Mon) (p : Ptr) (n kind call : Int) : Mon × Ptr × Int × Int :=
 if okMon m then
  if kindOk kind=true∧(call=0∨hasR m.run call=true) then
   if (loadR m.mem p n).2.2=0 then
    if m.tag=1000000 then (Mon.zero,Ptr.zero,0,18)
    else if (loadR m.mem p n).2.1=3 then (Mon.zero,Ptr.zero,3,0)
    else match atNum m.mem.al p.a with
     | none=>(Mon.zero,Ptr.zero,3,0)
     | some i =>
      if (tag33 (m.stks.getD i Stk.zero) p.o n kind p.t ⟨0,m.tag,call⟩ m.run).2.2=0∧(tag33 (m.stks.getD i Stk.zero) p.o n kind p.t ⟨0,m.tag,call⟩ m.run).2.1=0 then
       (⟨m.mem,m.stks.set i (tag33 (m.stks.getD i Stk.zero) p.o n kind p.t ⟨0,m.tag,call⟩ m.run).1,m.run,m.tag+1,m.call⟩,⟨p.a,p.o,m.tag⟩,0,0)
      else (Mon.zero,Ptr.zero,(tag33 (m.stks.getD i Stk.zero) p.o n kind p.t ⟨0,m.tag,call⟩ m.run).2.1,(tag33 (m.stks.getD i Stk.zero) p.o n kind p.t ⟨0,m.tag,call⟩ m.run).2.2)
   else (Mon.zero,Ptr.zero,0,(loadR m.mem p n).2.2)
  else (Mon.zero,Ptr.zero,0,2)
 else (Mon.zero,Ptr.zero,0,8)
def whereM (m : Mem) (p : Ptr) (n : Int) : Int × Int × Int :=
 if (askR m p n).2=0 then match (askR m p n).1 with
  | none=>(-1,3,0)
  | some i=>if (m.al.getD i Alloc.zero).live then ((i : Int),0,0) else (-1,3,0)
 else (-1,0,(askR m p n).2)
theorem whereM_some {m : Mem} {p : Ptr} {n : Int} {i : Nat} {a : Alloc} (h : askR m p n=(some i,0)) (ha : m.al[i]? = some a) : whereM m p n=if a.live then ((i : Int),0,0) else (-1,3,0):=by
 have hg : m.al.getD i Alloc.zero=a:=by rw [List.getD_eq_getElem?_getD,ha];rfl
 rw [whereM,h]
 dsimp only
 rw [if_pos rfl,hg]
theorem whereM_none {m : Mem} {p : Ptr} {n : Int} (h : askR m p n=(none,0)) : whereM m p n=(-1,3,0):=by rw [whereM,h];rfl
theorem whereM_err {m : Mem} {p : Ptr} {n : Int} (h : (askR m p n).2≠0) : whereM m p n=(-1,0,(askR m p n).2):=by rw [whereM,if_neg h]
theorem load_ways {m : Mem} {p : Ptr} {n un er : Int} {l : List Cell} (h : loadR m p n=(l,un,er)) : (er≠0∧un=0∧whereM m p n=(-1,0,er))∨(er=0∧un=3∧whereM m p n=(-1,3,0)) ∨
  (er=0∧(un=0∨un=4) ∧ ∃ i a,atNum m.al p.a=some i∧m.al[i]? = some a∧a.live=true∧whereM m p n=((i : Int),0,0)∧askR m p n=(some i,0)):=by
 obtain ⟨ix,e,hask⟩ : ∃ ix e,askR m p n=(ix,e):=⟨_,_,rfl⟩
 by_cases he : e=0
 ·subst he
  have h2 : (askR m p n).2=0:=by rw [hask]
  cases ix with
  | none =>
   rw [loadR_gone h2 (rangeR_none hask)] at h
   cases h
   exact .inr (.inl ⟨rfl,rfl,whereM_none hask⟩)
  | some i =>
   obtain ⟨-,-,-,-,hn1,-,hat,x,hx,ho0,ho⟩:=askR_inv hask
   cases hv : x.live
   ·rw [loadR_gone h2 (rangeR_dead hask hx hv)] at h
    cases h
    exact .inr (.inl ⟨rfl,rfl,by rw [whereM_some hask hx,hv];rfl⟩)
   ·have hne : rangeR m p n≠[]:=by
     rw [rangeR_live hask hx hv]
     intro e
     have:=cutOf_len (x:=x) (o:=p.o.toNat) (n:=n.toNat) (by omega)
     rw [e] at this
     simp at this
     omega
    refine .inr (.inr ?_)
    have hw : whereM m p n=((i : Int),0,0):=by rw [whereM_some hask hx,hv];rfl
    by_cases hz : (rangeR m p n).any (· == Cell.zero)=true
    ·rw [loadR_unset h2 hne hz] at h
     cases h
     exact ⟨rfl,.inr rfl,i,x,hat,hx,hv,hw,hask⟩
    ·rw [loadR_yes h2 hne (Bool.eq_false_iff.2 hz)] at h
     cases h
     exact ⟨rfl,.inl rfl,i,x,hat,hx,hv,hw,hask⟩
 ·have h2 : (askR m p n).2=e:=by rw [hask]
  rw [loadR_err h2 he] at h
  cases h
  refine .inl ⟨he,rfl,?_⟩
  rw [whereM_err (by rw [h2];exact he),h2]
theorem store_ways {m x : Mem} {p : Ptr} {l : List Cell} (h : storeR m p l=(x,0,0)) : ∃ i a,atNum m.al p.a=some i∧m.al[i]? = some a∧a.live=true∧whereM m p l.length=((i : Int),0,0)∧askR m p l.length=(some i,0)∧l.all Cell.ok=true∧x=⟨m.al.set i (putCells a p.o.toNat l),m.next⟩:=by
 rcases storeR_cases m p l with ⟨e,h1,h2⟩ | ⟨h1,-⟩ | ⟨i,a,h1,h2,h3,h4,h5⟩
 ·rw [h1] at h;simp only [Prod.mk.injEq] at h;exact absurd h.2.2 h2
 ·rw [h1] at h;simp at h
 ·rw [h5] at h
  simp only [Prod.mk.injEq,and_true] at h
  exact ⟨i,a,(askR_inv h1).2.2.2.2.2.2.1,h2,h3,by rw [whereM_some h1 h2,h3];rfl,h1,h4,h.symm⟩
theorem loadM_bad {m : Mon} {p : Ptr} {n : Int} (h : okMon m=false) : loadM m p n=(Mon.zero,[],0,8):=by simp [loadM,h]
theorem loadM_err {m : Mon} {p : Ptr} {n un er : Int} {l : List Cell} (h : okMon m=true) (hl : loadR m.mem p n=(l,un,er)) (he : er≠0∨un=3) : loadM m p n=(Mon.zero,[],un,er):=by
 rw [loadM,if_pos h,hl]
 dsimp only
 rw [if_neg (by omega)]
theorem loadM_live {m : Mon} {p : Ptr} {n un why e4 : Int} {l : List Cell} {i : Nat} {st x : Stk} (h : okMon m=true) (hl : loadR m.mem p n=(l,un,0)) (hu : un≠3) (hat : atNum m.mem.al p.a=some i) (hst : m.stks[i]? = some st) (hd : use33 st p.o n p.t false m.run=(x,why,e4)) :
  loadM m p n=if why=0 then if un=0 then (⟨m.mem,m.stks.set i x,m.run,m.tag,m.call⟩,l,0,0) else (Mon.zero,[],un,0) else (Mon.zero,[],why,0):=by
 have hk : m.stks.getD i Stk.zero=st:=by rw [List.getD_eq_getElem?_getD,hst];rfl
 rw [loadM,if_pos h,hl]
 dsimp only
 rw [if_pos ⟨rfl,hu⟩,hat]
 dsimp only
 rw [hk,hd]
theorem storeM_bad {m : Mon} {p : Ptr} {l : List Cell} (h : okMon m=false) : storeM m p l=(Mon.zero,0,8):=by simp [storeM,h]
theorem storeM_err {m : Mon} {p : Ptr} {un er : Int} {l : List Cell} {x : Mem} (h : okMon m=true) (hl : storeR m.mem p l=(x,un,er)) (he : er≠0∨un≠0) : storeM m p l=(Mon.zero,un,er):=by
 rw [storeM,if_pos h,hl]
 dsimp only
 rw [if_neg (by omega)]
theorem storeM_live {m : Mon} {p : Ptr} {why e4 : Int} {l : List Cell} {y : Mem} {i : Nat} {st x : Stk} (h : okMon m=true) (hl : storeR m.mem p l=(y,0,0)) (hat : atNum m.mem.al p.a=some i) (hst : m.stks[i]? = some st) (hd : use33 st p.o l.length p.t true m.run=(x,why,e4)) :
  storeM m p l=if why=0 then (⟨y,m.stks.set i x,m.run,m.tag,m.call⟩,0,0) else (Mon.zero,why,0):=by
 have hk : m.stks.getD i Stk.zero=st:=by rw [List.getD_eq_getElem?_getD,hst];rfl
 rw [storeM,if_pos h,hl]
 dsimp only
 rw [if_pos ⟨rfl,rfl⟩,hat]
 dsimp only
 rw [hk,hd]
theorem retagM_bad {m : Mon} {p : Ptr} {n kind call : Int} (h : okMon m=false) : retagM m p n kind call=(Mon.zero,Ptr.zero,0,8):=by simp [retagM,h]
theorem retagM_arg {m : Mon} {p : Ptr} {n kind call : Int} (h : okMon m=true) (hk : ¬ (kindOk kind=true∧(call=0∨hasR m.run call=true))) : retagM m p n kind call=(Mon.zero,Ptr.zero,0,2):=by rw [retagM,if_pos h,if_neg hk]
theorem retagM_err {m : Mon} {p : Ptr} {n kind call un er : Int} {l : List Cell} (h : okMon m=true) (hk : kindOk kind=true∧(call=0∨hasR m.run call=true)) (hl : loadR m.mem p n=(l,un,er)) (he : er≠0) : retagM m p n kind call=(Mon.zero,Ptr.zero,0,er):=by
 rw [retagM,if_pos h,if_pos hk,hl]
 dsimp only
 rw [if_neg he]
theorem retagM_full {m : Mon} {p : Ptr} {n kind call un : Int} {l : List Cell} (h : okMon m=true) (hk : kindOk kind=true∧(call=0∨hasR m.run call=true)) (hl : loadR m.mem p n=(l,un,0)) (ht : m.tag=1000000) : retagM m p n kind call=(Mon.zero,Ptr.zero,0,18):=by
 rw [retagM,if_pos h,if_pos hk,hl]
 dsimp only
 rw [if_pos rfl,if_pos ht]
theorem retagM_gone {m : Mon} {p : Ptr} {n kind call : Int} {l : List Cell} (h : okMon m=true) (hk : kindOk kind=true∧(call=0∨hasR m.run call=true)) (hl : loadR m.mem p n=(l,3,0)) (ht : m.tag≠1000000) : retagM m p n kind call=(Mon.zero,Ptr.zero,3,0):=by
 rw [retagM,if_pos h,if_pos hk,hl]
 dsimp only
 rw [if_pos rfl,if_neg ht,if_pos rfl]
theorem retagM_live {m : Mon} {p : Ptr} {n kind call un why e4 : Int} {l : List Cell} {i : Nat} {st x : Stk} (h : okMon m=true) (hk : kindOk kind=true∧(call=0∨hasR m.run call=true)) (hl : loadR m.mem p n=(l,un,0)) (ht : m.tag≠1000000) (hu : un≠3) (hat : atNum m.mem.al p.a=some i) (hst : m.stks[i]? = some st)
  (hd : tag33 st p.o n kind p.t ⟨0,m.tag,call⟩ m.run=(x,why,e4)) :
  retagM m p n kind call=if e4=0∧why=0 then (⟨m.mem,m.stks.set i x,m.run,m.tag+1,m.call⟩,⟨p.a,p.o,m.tag⟩,0,0) else (Mon.zero,Ptr.zero,why,e4):=by
 have hs : m.stks.getD i Stk.zero=st:=by rw [List.getD_eq_getElem?_getD,hst];rfl
 rw [retagM,if_pos h,if_pos hk,hl]
 dsimp only
 rw [if_pos rfl,if_neg ht,if_neg hu,hat]
 dsimp only
 rw [hs,hd]
theorem trows_set2 {vs : List Value} {l : List Stk} {i : Nat} {s' : Value} {y : Stk} (hv : vs.length=l.length) (hi : i < l.length) : ((trows krow vs l).set (i * 2) (.int .i64 y.num)).set (i * 2+1) s'=trows krow (vs.set i s') (l.set i y):=by
 unfold trows
 induction l generalizing vs i with
 | nil=>simp at hi
 | cons a l ih =>
  cases vs with
  | nil=>simp at hv
  | cons v vs =>
   cases i with
   | zero=>simp [krow]
   | succ i =>
    have e : (i+1) * 2=i * 2+1+1:=by omega
    have h:=ih (vs:=vs) (i:=i) (by simpa using hv) (by simpa using hi)
    simp only [List.set_cons_succ,List.zip_cons_cons,List.flatMap_cons,krow,List.cons_append,List.nil_append,e] at h ⊢
    rw [h]
theorem OwnK.setS {S T : Nat→Prop} {wT w' : World} {N g cap : Nat} {s' : Value} {vs : List Value} {l : List Stk} {i : Nat} {y : Stk} (h : OwnK wT N (.slice (some ⟨g,0,none⟩) l.length cap) vs l) (hi : i < l.length) (hX : ExtBut T wT w') (hT : ∀ b,N≤b→b≠g→b < wT.heap.size → ¬ T b∧S b) (hg : S g)
  (hO : Own w' N 44 2 (.slice (some ⟨g,0,none⟩) l.length cap) l.length (((trows krow vs l).set (i * 2) (.int .i64 y.num)).set (i * 2+1) s')) (hR : Fq S w' (fun w=>Sts w s' y.cells)) :
  Fq S w' (fun w=>Kts w (.slice (some ⟨g,0,none⟩) l.length cap) (l.set i y)):=by
 rw [trows_set2 h.len hi] at hO
 intro w'' hw
 refine ⟨vs.set i s',All2.iff.2 ⟨by simp [h.len],fun j u z hu hz => ?_⟩,?_⟩
 ·by_cases e : j=i
  ·subst e
   rw [List.getElem?_set_self (by rw [h.len];exact hi)] at hu
   rw [List.getElem?_set_self hi] at hz
   cases hu;cases hz
   exact hR w'' hw
  ·rw [List.getElem?_set_ne (fun e'=>e e'.symm)] at hu hz
   exact ((h.inner j u z hu hz).to (S':=S) hX (fun b h1 hl=>(hT b h1.1 (fun e=>h1.2 (by rw [e];rfl)) hl).1) (fun b h1 hl=>(hT b h1.1 (fun e=>h1.2 (by rw [e];rfl)) hl).2)) w'' hw
 ·rw [List.length_set]
  exact hO.fs w'' fun b e hl=>hw b (by have e' : some g=some b:=e;cases e';exact hg) hl
end Go.Proofs.YtoanoodfacmieaaDoor

/- Contracts: phases.read, phases.Many, the reference's Many (layer 32). (printed by gen/ph32.py) -/
namespace Go.Proofs.YtoanoodfacmieaaDoor
set_option maxRecDepth 100000
open Go.RowKit
end Go.Proofs.YtoanoodfacmieaaDoor

/- Contracts: Phase, Reserve, Activate (layer 32), the program's and the reference's; the helpers of its statements. (printed by gen/ph32.py) -/
namespace Go.Proofs.YtoanoodfacmieaaDoor
set_option maxRecDepth 100000
open Go.RowKit
theorem phaseR_bad {l : List Item} {tag : Int} (h : okS l=false) : phaseR l tag=(0,8):=by simp [phaseR,h]
theorem phaseR_ok {l : List Item} {tag : Int} (h : okS l=true) : phaseR l tag=(phaseOf l tag,0):=by simp [phaseR,h]
theorem phaseOf_none {l : List Item} {tag : Int} (h : findAt l tag true=none) : phaseOf l tag=0:=by simp [phaseOf,h]
theorem phaseOf_some {l : List Item} {tag : Int} {i : Nat} {x : Item} (h : findAt l tag true=some i) (hx : l[i]? = some x) : phaseOf l tag=if x.p=2 then 1 else 2:=by
 simp only [phaseOf,h,hx,Option.any_some]
 by_cases hp : x.p=2
 ·simp [hp]
 ·simp [hp]
theorem granted_perm {l : List Item} {tag : Int} {i : Nat} (hok : okS l=true) (h : findAt l tag true=some i) : ∃ x,l[i]? = some x∧(x.p=1∨x.p=2∨x.p=3):=by
 obtain ⟨x,hx,hg,-⟩:=findAt_is h
 refine ⟨x,hx,?_⟩
 have hxok : x.ok=true:=by
  unfold okS at hok
  simp only [Bool.and_eq_true] at hok
  exact List.all_eq_true.1 hok.2 x (List.mem_of_getElem? hx)
 unfold Item.ok at hxok
 unfold grants at hg
 simp only [Bool.and_eq_true,Bool.or_eq_true,beq_iff_eq,Bool.true_and,Bool.not_eq_true',beq_eq_false_iff_ne] at hxok hg
 omega
set_option maxHeartbeats 800000 in
theorem phases_Phase {l : List Item} {v : Value} {w : World} (tag : Int) (hl : Its w v l) :
  Calls Tryd.prog 12 #[v,.int .i64 tag] w fun e w'=>e = .returned (.tuple #[.int .u8 (phaseR l tag).1,.int .i64 (phaseR l tag).2])∧Ext w w':=by
 have hL:=Lib.hid hl
 obtain ⟨a,cp,rfl,hlc,hcm,-⟩:=hl.form
 clear hl
 cases hok : okS l
 ·have hi : Hid (findIx l tag true=0):=Hid.mk (by simp [findIx,hok])
  have he : Hid (findErr l tag true=8):=Hid.mk (by simp [findErr,hok])
  have hres:=Lib.hid (phaseR_bad (tag:=tag) hok)
  clear hok
  go_enter Tryd.func12,Tryd.ntmps12
  go_wp2_with fail
  refine (items_Find tag true hL.out).mono ?_
  rintro e w1 ⟨rfl,hE1⟩
  rw [hi.out,he.out]
  go_wp2
  go_ret2
  exact ⟨by rw [hres.out] <;> rfl,hE1⟩
 ·cases hf : findAt l tag true with
  | none =>
   have hi : Hid (findIx l tag true=0):=Hid.mk (by simp [findIx,hok,hf])
   have he : Hid (findErr l tag true=6):=Hid.mk (by simp [findErr,hok,hf])
   have hres : Hid (phaseR l tag=(0,0)):=Hid.mk (by rw [phaseR_ok hok,phaseOf_none hf])
   clear hok hf
   go_enter Tryd.func12,Tryd.ntmps12
   go_wp2_with fail
   refine (items_Find tag true hL.out).mono ?_
   rintro e w1 ⟨rfl,hE1⟩
   rw [hi.out,he.out]
   go_wp2
   go_ret2
   exact ⟨by rw [hres.out] <;> rfl,hE1⟩
  | some i =>
   obtain ⟨x,hx,hp⟩:=granted_perm hok hf
   have hil:=(List.getElem?_eq_some_iff.1 hx).1
   have hi : Hid (findIx l tag true=(i : Int)):=Hid.mk (by simp [findIx,hok,hf])
   have he : Hid (findErr l tag true=0):=Hid.mk (by simp [findErr,hok,hf])
   have hres : Hid (phaseR l tag=(if x.p=2 then 1 else 2,0)):=Hid.mk (by rw [phaseR_ok hok,phaseOf_some hf hx])
   have hX:=Lib.hid hx
   have hi0 : (0 : Int)≤(i : Int):=by omega
   have hi1 : (i : Int) < (l.length : Int):=by omega
   obtain ⟨xp,xt,xc⟩:=x
   simp only at hp
   clear hok hf hx
   rcases hp with rfl | rfl | rfl
   all_goals
    go_enter Tryd.func12,Tryd.ntmps12
    go_wp2_with fail
    refine (items_Find tag true hL.out).mono ?_
    rintro e w1 ⟨rfl,hE1⟩
    rw [hi.out,he.out]
    obtain ⟨b0,o0,rfl,hb0,c0,-,-⟩:=(hL.out.ext hE1).cell hX.out
    go_wp2
    go_ret2
    exact ⟨by rw [hres.out] <;> rfl,hE1⟩
end Go.Proofs.YtoanoodfacmieaaDoor

/- How a statement is closed: a call that returns true and only makes memory leaves every argument aas it read. -/
namespace Go.Proofs.YtoanoodfacmieaaDoor
set_option maxRecDepth 100000
open Go.ChangeShapes Go.WideShapes Go.ChangeAt Go.RowKit
theorem Trydown : ownKnob Tryd.prog.godebug=none:=by kernel_rfl
theorem TrydlaidOut : laidOutB Tryd.prog=true:=by kernel_rfl
section
variable {H : Type} {enc : TypeId × Value→H} {P : Program}
theorem trodAll_stays (hl : laidOutB P=true) {W W' : World} (hb : Below W.heap.size W W') : ∀ (ts : List TypeId) (vs : List Value) (ds : List (DataW H)) (ps : List MemPlace),(∀ t ∈ ts,P.readableRec t=true∧t < P.types.size)→(∀ x ∈ ps,x.block < W.heap.size) →
  DataW.TrodAll enc P W 0 (fun _=>true) true ts vs ds ps→DataW.TrodAll enc P W' 0 (fun b=>decide (b < W.heap.size)) true ts vs ds ps
 | [],[],[],ps,_,_,h=>h
 | t :: ts,v :: vs,d :: ds,ps,hr,hlt,h=>by
  obtain ⟨p,q,h1,h2,rfl⟩:=h
  refine ⟨p,q,Below.trod hl (hr t (by simp)).1 (hr t (by simp)).2 h1 hb (fun x hx=>hlt x (by simp [hx])),trodAll_stays hl hb ts vs ds q (fun t ht=>hr t (by simp [ht])) (fun x hx=>hlt x (by simp [hx])) h2,rfl⟩
 | [],_ :: _,_,_,_,_,h=>h.elim
 | [],[],_ :: _,_,_,_,h=>h.elim
 | _ :: _,[],_,_,_,_,h=>h.elim
 | _ :: _,_ :: _,[],_,_,_,h=>h.elim
theorem trodAll_len {W : World} : ∀ (ts : List TypeId) (vs : List Value) (ds : List (DataW H)) (ps : List MemPlace),DataW.TrodAll enc P W 0 (fun _=>true) true ts vs ds ps→ds.length=ts.length
 | [],[],[],_,_=>rfl
 | _ :: ts,_ :: vs,_ :: ds,_,h=>by
  obtain ⟨p,q,_,h2,_⟩:=h
  simp [trodAll_len ts vs ds q h2]
 | [],_ :: _,_,_,h=>h.elim
 | [],[],_ :: _,_,h=>h.elim
 | _ :: _,[],_,_,h=>h.elim
 | _ :: _,_ :: _,[],_,h=>h.elim
theorem post_law (hl : laidOutB P=true) {f : Func} {s : ChangeSpec} {tb : TypeId} (hres : f.resultTypes=#[tb]) (htb : P.underlying tb=some .bool) (hrd : f.params.toList.all (fun t=>P.readableRec t && decide (t < P.types.size))=true) (hv : s.vars=[])
  (hs : ∀ ds : List (DataW H),ds.length=f.params.size→s.fn H ds = { results:=[.lit (.bool true)],args:=ds,vars:=[] }) {fresh handsOn : Bool} {W W' : World} {args : Array Value} {ds gs : List (DataW H)} {before : List MemPlace}
  (hW : DataW.Whole enc P f.params.toList s.vars false W args.toList ds gs before) (hb : Below W.heap.size W W') :
  s.post enc P f false fresh handsOn false W args (.bool true) W':=by
 have hW':=hW
 have hlt:=hW.lt
 obtain ⟨p,q,hA,hV,rfl,hz,hn⟩:=hW
 rw [hv] at hV
 have hgs : gs=[]:=by cases gs <;> simp_all [DataW.TrodVars]
 subst hgs
 have hq : q=[]:=hV
 subst hq
 have hlen:=trodAll_len _ _ _ _ hA
 have hfn:=hs ds (by simpa using hlen)
 refine ⟨ds,[],p ++ [],[],p,[],hW',?_,?_,?_,Below.frame hb _,fun h=>by cases h⟩
 ·rw [List.append_nil,hfn,hres]
  exact trodAll_mk1 (shut_bool htb true)
 ·rw [List.append_nil,hfn]
  refine trodAll_stays hl hb _ _ _ _ (fun t ht => ?_) (fun x hx=>hlt x (by simp [hx])) hA
  have:=List.all_eq_true.1 hrd t ht
  simpa using this
 ·rw [List.append_nil,hfn,hv]
  rfl
end
end Go.Proofs.YtoanoodfacmieaaDoor

/- How a statement is closed whose row lists the variable perms: what it holds at the start. -/
namespace Go.Proofs.YtoanoodfacmieaaDoor
set_option maxRecDepth 100000
open Go.ChangeShapes Go.WideShapes Go.ChangeAt Go.RowKit
theorem gPerms : Tryd.prog.globalNamed "pawnshop/grant.perms" = some 0 := by kernel_rfl
theorem gPermsType : (Tryd.prog.globals[0]?).map (·.type)=some 139:=by kernel_rfl
theorem cellsPerms : Tryd.prog.cellsOf 139=5:=by kernel_rfl
theorem cellsU8 : Tryd.prog.cellsOf 5=1:=by kernel_rfl
theorem perms_of_laid {W : World} (h : laidMetH Tryd.prog [("pawnshop/grant.perms", Rows.laid_pawnshop_grant_perms)] W) : Perms W := by
 have hT : Lib.TabIs Tryd.prog W "pawnshop/grant.perms" .u8 [0, 4, 1, 2, 3] := Lib.tabIs_of_head (rest := []) gPerms gPermsType Tryd.underlying139 Tryd.underlying5 cellsU8 cellsPerms h
 exact ⟨hT.cell gPerms 0 (by decide),hT.cell gPerms 1 (by decide),hT.cell gPerms 2 (by decide),hT.cell gPerms 3 (by decide),hT.cell gPerms 4 (by decide)⟩
noncomputable def doorWorld (os : Os) : World :=
 { World.holding Tryd.prog os ⟨#[],#[],[]⟩ with heap:=(World.holding Tryd.prog os ⟨#[],#[],[]⟩).heap.modify 0 fun
   | .cells _ t frozen => .cells #[.int .u8 0,.int .u8 4,.int .u8 1,.int .u8 2,.int .u8 3] t frozen
   | o=>o }
end Go.Proofs.YtoanoodfacmieaaDoor

/- Contracts: the helpers of the statements of layer 30; the plain laws that they need. -/
namespace Go.Proofs.YtoanoodfacmieaaDoor
set_option maxRecDepth 100000
open Go.ChangeShapes Go.WideShapes Go.ChangeAt Go.RowKit
theorem findAt_top {M : List Item} {n : Item} {tag : Int} {write : Bool} (h : grants tag write n=true) : findAt (M ++ [n]) tag write=some M.length:=by
 refine findAt_some (x:=n) (by simp) h ?_
 intro j y hj hy
 have:=(List.getElem?_eq_some_iff.1 hy).1
 simp at this
 omega
end Go.Proofs.YtoanoodfacmieaaDoor

/- Plain laws of layer 29: how an access parts a stack, index by index. -/
namespace Go.Proofs.YtoanoodfacmieaaDoor
set_option maxRecDepth 100000
open Go.RowKit
end Go.Proofs.YtoanoodfacmieaaDoor

/- Plain laws of layer 32: what is reserved stays so through reads; reads one by one. No program in sight. -/
namespace Go.Proofs.YtoanoodfacmieaaDoor
set_option maxRecDepth 100000
open Go.RowKit
theorem useR_valid {l : List Item} {tag : Int} {write : Bool} {run : List Int} (hr : okR run=true) (hok : okS l=true) :
  (findAt l tag write=none∧useR l tag write run=([],1,0)) ∨ ∃ i,findAt l tag write=some i∧((useR l tag write run=([],2,0))∨(useR l tag write run=(useLeft l i write,0,0)∧(firstR (useGone l i write) run).isSome=false)):=by
 unfold useR
 rw [if_pos hr]
 simp only [accL,accG,accW,hok,if_true,chk,usedL,usedG,usedW]
 cases hf : findAt l tag write with
 | none=>exact .inl ⟨rfl,toldR'_no (by simp)⟩
 | some i =>
  refine .inr ⟨i,rfl,?_⟩
  cases hh : (firstR (useGone l i write) run).isSome
  ·exact .inr ⟨toldR'_no (by simp [hh]),rfl⟩
  ·exact .inl (toldR'_yes ⟨rfl,rfl,hh⟩)
theorem findAt_cases (l : List Item) (tag : Int) (write : Bool) : (∃ i,findAt l tag write=some i)∨findAt l tag write=none:=by
 cases h : findAt l tag write with
 | none=>exact .inr rfl
 | some i=>exact .inl ⟨i,rfl⟩
theorem useR_err {l : List Item} {tag : Int} {write : Bool} {run : List Int} (hr : okR run=true) (hok : okS l=true) : (useR l tag write run).2.2=0∧((useR l tag write run).2.1=0∨((useR l tag write run).1=[]∧((useR l tag write run).2.1=1∨(useR l tag write run).2.1=2))):=by
 rcases useR_valid (tag:=tag) (write:=write) hr hok with ⟨-,h⟩ | ⟨i,-,h | ⟨h,-⟩⟩
 ·rw [h];exact ⟨rfl,.inr ⟨rfl,.inl rfl⟩⟩
 ·rw [h];exact ⟨rfl,.inr ⟨rfl,.inr rfl⟩⟩
 ·rw [h];exact ⟨rfl,.inl rfl⟩
structure Resv (l : List Item) (r : Item) : Prop where
 ok : okS l=true
 mem : r ∈ l
 only : ∀ x ∈ l,x.t=r.t→x=r
theorem Resv.find {l : List Item} {r : Item} {write : Bool} (h : Resv l r) (hr : r.p=2) : ∃ i,findAt l r.t write=some i∧l[i]? = some r:=by
 obtain ⟨j,hj⟩:=List.mem_iff_getElem?.1 h.mem
 have hg : grants r.t write r=true:=by simp [grants,hr]
 cases hf : findAt l r.t write with
 | none=>rw [findAt_no hf j r hj] at hg;cases hg
 | some i =>
  obtain ⟨x,hx,hgx,-⟩:=findAt_is hf
  have ht : x.t=r.t:=by
   unfold grants at hgx
   simp only [Bool.and_eq_true,beq_iff_eq] at hgx
   exact hgx.1
  have:=h.only x (List.mem_of_getElem? hx) ht
  subst this
  exact ⟨i,rfl,hx⟩
theorem Resv.left {l : List Item} {r : Item} {t : Int} {i : Nat} (h : Resv l r) (hr : r.p=2) (hf : findAt l t false=some i) : Resv (useLeft l i false) r:=by
 refine ⟨useLeft_ok h.ok,?_,fun x hx hxt => ?_⟩
 ·unfold useLeft
  rw [if_neg (by decide)]
  have hm:=h.mem
  rw [← List.take_append_drop (i+1) l] at hm
  rcases List.mem_append.1 hm with hm | hm
  ·exact List.mem_append_left _ hm
  ·exact List.mem_append_right _ (List.mem_filter.2 ⟨hm,by simp [hr]⟩)
 ·unfold useLeft at hx
  rw [if_neg (by decide)] at hx
  refine h.only x ?_ hxt
  rcases List.mem_append.1 hx with hx | hx
  ·exact List.mem_of_mem_take hx
  ·exact List.mem_of_mem_drop (List.mem_filter.1 hx).1
theorem Resv.read {l N : List Item} {r : Item} {t : Int} {run : List Int} (h : Resv l r) (hp : r.p=2) (hr : okR run=true) {e : Int} (hu : useR l t false run=(N,0,e)) : Resv N r:=by
 rcases useR_valid (tag:=t) (write:=false) hr h.ok with ⟨-,h1⟩ | ⟨i,hf,h1 | ⟨h1,-⟩⟩
 ·rw [h1] at hu;simp at hu
 ·rw [h1] at hu;simp at hu
 ·rw [h1] at hu
  simp only [Prod.mk.injEq] at hu
  rw [← hu.1]
  exact h.left hp hf
theorem Resv.reads {run : List Int} {r : Item} (hp : r.p=2) (hr : okR run=true) : ∀ (ts : List Int) (l : List Item),Resv l r→(readsR run l ts).2.2=0→Resv (readsR run l ts).1 r
 | [],l,h,_=>h
 | t :: ts,l,h,h0=>by
  unfold readsR at h0 ⊢
  by_cases hu : (useR l t false run).2.1=0
  ·rw [if_pos hu] at h0 ⊢
   exact Resv.reads hp hr ts _ (h.read hp hr (e:=(useR l t false run).2.2) (by rw [← hu])) h0
  ·rw [if_neg hu] at h0
   exact absurd h0 hu
theorem Resv.write {l N : List Item} {r : Item} {run : List Int} (h : Resv l r) (hp : r.p=2) (hr : okR run=true) {e : Int} (hu : useR l r.t true run=(N,0,e)) :
  (∃ M,N=M ++ [⟨1,r.t,r.c⟩])∧okS N=true∧phaseR N r.t=(2,0):=by
 obtain ⟨i,hf,hx⟩:=h.find (write:=true) hp
 have hil:=(List.getElem?_eq_some_iff.1 hx).1
 rcases useR_valid (tag:=r.t) (write:=true) hr h.ok with ⟨h0,-⟩ | ⟨j,hf',h1 | ⟨h1,-⟩⟩
 ·rw [hf] at h0;cases h0
 ·rw [h1] at hu;simp at hu
 ·rw [hf] at hf'
  cases hf'
  rw [h1] at hu
  simp only [Prod.mk.injEq] at hu
  have hok : okS N=true:=by rw [← hu.1];exact useLeft_ok h.ok
  have hN : N=l.take i ++ [⟨1,r.t,r.c⟩]:=by
   rw [← hu.1]
   unfold useLeft actAt
   rw [if_pos rfl,take_get hx]
   simp only [hp,if_true]
   rw [List.take_add_one,hx]
   have : (l.take i).length=i:=by rw [List.length_take];omega
   simp [List.set_append,this]
  refine ⟨⟨_,hN⟩,hok,?_⟩
  have hf2 : findAt N r.t true=some (l.take i).length:=by rw [hN];exact findAt_top (by simp [grants])
  rw [phaseR_ok hok,phaseOf_some (x:=⟨1,r.t,r.c⟩) hf2 (by rw [hN];simp)]
  simp
end Go.Proofs.YtoanoodfacmieaaDoor

/- Plain laws of stacks that are accessed: what is left has the tags and calls that were there; the newest item grants; no program in sight. -/
namespace Go.Proofs.YtoanoodfacmieaaDoor
set_option maxRecDepth 100000
open Go.RowKit
theorem ask33_of {x : Stk} {a n : Int} {run : List Int} (hr : okR run=true) (hk : okK x=true) (h0 : 0≤a) (h1 : 1≤n) (h2 : a+n≤x.cells.length) : ask33 x a n run=0:=by
 rw [ask33,if_pos hr,if_pos hk,if_pos (by unfold inR33;omega)]
def itsB (P : Int→Int→Prop) (s : List Item) : Prop := ∀ it ∈ s,P it.t it.c
theorem retagR_zero {l s g : List Item} {k old : Int} {x : Item} (h : retagR l k old x=(s,g,0,0)) : okS l=true∧kindOk k=true∧argOk x=true ∧ ∃ i,findAt l old (writesOf k)=some i∧(useLeft l i (writesOf k)).length < 600∧s=useLeft l i (writesOf k) ++ [⟨permOf k,x.t,x.c⟩]:=by
 cases hok : okS l
 ·rw [retagR_bad hok] at h;simp at h
 by_cases ha : (kindOk k && argOk x)=true
 ·have hk:=ha
  simp only [Bool.and_eq_true] at hk
  rcases findAt_cases l old (writesOf k) with ⟨i,hf⟩ | hf
  ·have hw : usedW l old (writesOf k)=0:=by rw [usedW,hf]
   have hu : usedL l old (writesOf k)=useLeft l i (writesOf k):=by rw [usedL,hf]
   by_cases hl : (usedL l old (writesOf k)).length=600
   ·rw [retagR_full hok ha hw hl] at h;simp at h
   ·rw [retagR_yes hok ha hw hl] at h
    simp only [Prod.mk.injEq,and_true] at h
    have h9:=useLeft_ok (i:=i) (write:=writesOf k) hok
    unfold okS at h9
    simp only [Bool.and_eq_true,decide_eq_true_eq] at h9
    rw [hu] at hl h
    exact ⟨rfl,hk.1,hk.2,i,hf,by omega,h.1.symm⟩
  ·have hw : usedW l old (writesOf k)=1:=by rw [usedW,hf]
   rw [retagR_no hok ha (by rw [hw];decide),hw] at h
   simp at h
 ·rw [retagR_arg hok (by simpa using ha)] at h;simp at h
theorem tagR_in {l s : List Item} {k old : Int} {it : Item} {run : List Int} {P : Int→Int→Prop} (hP : itsB P l) (hi : P it.t it.c) (h : tagR l k old it run=(s,0,0)) : okS s=true∧itsB P s∧kindOk k=true ∧ ∃ U,s=U ++ [⟨permOf k,it.t,it.c⟩]:=by
 by_cases hr : okR run=true
 ·rw [tagR,if_pos hr] at h
  obtain ⟨⟨s',g',w',e'⟩,hq⟩ : ∃ z,retagR l k old it=z:=⟨_,rfl⟩
  rw [hq] at h
  dsimp only at h
  unfold toldR' at h
  split at h
  ·simp at h
  ·simp only [Prod.mk.injEq] at h
   obtain ⟨rfl,rfl,rfl⟩:=h
   obtain ⟨h1,h2,h3,i,hf,h4,rfl⟩:=retagR_zero hq
   have hu:=useLeft_ok (i:=i) (write:=writesOf k) h1
   refine ⟨?_,fun y hy => ?_,h2,_,rfl⟩
   ·unfold okS at hu ⊢
    simp only [Bool.and_eq_true,decide_eq_true_eq,List.all_append,List.all_cons,List.all_nil,Bool.and_true,List.length_append,List.length_cons,List.length_nil] at hu ⊢
    refine ⟨by omega,hu.2,?_⟩
    have hp:=permOf_ok k
    unfold argOk at h3
    simp only [Bool.and_eq_true] at h3
    unfold Item.ok
    simp only [Bool.and_eq_true,Bool.or_eq_true,beq_iff_eq]
    exact ⟨⟨by omega,h3.1.2⟩,h3.2⟩
   ·rcases List.mem_append.1 hy with h5 | h5
    ·rcases useLeft_mem h5 with h6 | ⟨x,h6,-,rfl⟩
     ·exact hP y h6
     ·exact hP x h6
    ·obtain rfl:=List.mem_singleton.1 h5
     exact hi
 ·rw [tagR,if_neg hr] at h;simp at h
end Go.Proofs.YtoanoodfacmieaaDoor
