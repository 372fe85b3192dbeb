/- Several texts in one: CelX1, CelX2, CelX3, Alive26, Oth26, CelP, MonQ, RegInr, BoxR, BoxO. -/
import Derived.Test.YtnplphcnagooeaaDoorQ10
import Derived.BigQuiet
import Derived.Test.YtnplphcnagooeaaDoorQ07
import Derived.Test.YtnplphcnagooeaaDoorQ01
import Derived.Test.YtnplphcnagooeaaDoorQ09
import Derived.Test.YtnplphcnagooeaaDoorQ05
/- Contracts: find of the program, Asked of the reference of layer 27. -/
namespace Go.Proofs.YtnplphcnagooeaaDoor
set_option maxRecDepth 100000
open Go.RowKit
def cutV (s : Value) (o n : Nat) : Value :=
 match s with
 | .slice a _ cap => .slice (if cap=o then a else a.map (·.add (o * 5))) n (cap - o)
 | v=>v
def findV (m : Mem) (vs : List Value) (p : Ptr) (n : Int) : Value :=
 match (askR m p n).1 with
 | none => .slice none 0 0
 | some i=>if (m.al.getD i Alloc.zero).live then cutV (vs.getD i (.slice none 0 0)) p.o.toNat n.toNat else .slice none 0 0
theorem Cls.cut {w : World} {s : Value} {l : List Cell} (h : Cls w s l) (o n : Nat) (hn : o+n≤l.length) : Cls w (cutV s o n) ((l.drop o).take n):=by
 obtain ⟨a,cap,rfl,hc,-⟩:=h.form
 have h1:=Sl.drop h o (by omega)
 rw [rows_drop Cell.row Cell.row_len] at h1
 have h2:=Sl.take h1 n (by omega)
 rw [rows_take Cell.row Cell.row_len] at h2
 unfold Cls cutV
 rw [List.length_take,List.length_drop,Nat.min_eq_left (by omega)]
 exact h2
theorem askR_bad {m : Mem} {p : Ptr} {n : Int} (h : m.ok=false) : askR m p n=(none,8):=by simp [askR,h]
theorem askR_arg {m : Mem} {p : Ptr} {n : Int} (h : m.ok=true) (ha : p.a < 0∨m.next≤p.a∨n < 1∨2 < n) : askR m p n=(none,2):=by simp [askR,h,ha]
theorem askR_none {m : Mem} {p : Ptr} {n : Int} (h : m.ok=true) (ha : ¬ (p.a < 0∨m.next≤p.a∨n < 1∨2 < n)) (hi : atNum m.al p.a=none) : askR m p n=(none,0):=by simp [askR,h,ha,hi]
theorem askR_off {m : Mem} {p : Ptr} {n : Int} {i : Nat} {x : Alloc} (h : m.ok=true) (ha : ¬ (p.a < 0∨m.next≤p.a∨n < 1∨2 < n)) (hi : atNum m.al p.a=some i) (hx : m.al[i]? = some x) (ho : p.o < 0∨(x.cells.length : Int) - n < p.o) : askR m p n=(none,6):=by
 simp [askR,h,ha,hi,List.getD_eq_getElem?_getD,hx,ho]
theorem askR_yes {m : Mem} {p : Ptr} {n : Int} {i : Nat} {x : Alloc} (h : m.ok=true) (ha : ¬ (p.a < 0∨m.next≤p.a∨n < 1∨2 < n)) (hi : atNum m.al p.a=some i) (hx : m.al[i]? = some x) (ho : ¬ (p.o < 0∨(x.cells.length : Int) - n < p.o)) : askR m p n=(some i,0):=by
 simp [askR,h,ha,hi,List.getD_eq_getElem?_getD,hx,ho]
theorem run_slice_mid {P : Program} {t e : TypeId} {i : TypeInfo} (ht : P.underlying t=some (.slice e)) (hi : P.info? e=some i) (h5 : i.size=5) (a : Option Addr) (n cap : Nat) (x y : Int) (o k : Nat) (hx : x=o) (hy : y=(o+k : Nat)) (hk : o+k≤cap) (w : World) :
  (Instr.slice t (.slice a n cap) (some (.int .i64 x)) (some (.int .i64 y)) none).run P w = .ok (cutV (.slice a n cap) o k) w:=by
 subst hx hy
 have h2 : (0 : Int)≤(o : Int)+(k : Int)∧(o : Int)+(k : Int)≤(cap : Int):=by omega
 have h3 : ((o : Int)+(k : Int)).toNat=o+k:=by omega
 simp [Instr.slice,run_underlying ht,Instr.sliceBounds,Instr.sliceBound,asIntOf,h2,h3,sizeOf,typeInfo,hi,h5,cutV]
theorem callFunc_cellsfind (args : Array Value) (w : World) : (callFunc 93 args).run Tryd.prog w = .ok (.enter 93 args) w:=by kernel_rfl
set_option maxHeartbeats 400000 in
theorem cells_find1 (n : Int) (B : Nat) (W : World) (hc : W.cell? ⟨B,0,none⟩=some (.int .i64 n)) : PredA 93 #[.pointer (some ⟨B,0,none⟩)] W (numIs n):=by
 intro x s w hW
 obtain ⟨num,live,cs⟩:=x
 have hcw:=hW.cell hc
 have hB:=World.block_lt_of_cell? _ _ hcw
 have hE:=(Ext.refl w).alloc (.cells #[.int .i64 num,.bool live,s] 109)
 clear hc hW
 show Calls Tryd.prog 93 #[.agg #[.int .i64 num,.bool live,s],.pointer (some ⟨B,0,none⟩)] w _
 go_enter Tryd.func93,Tryd.ntmps93
 go_wp2
 go_ret
 exact ⟨rfl,hE⟩
def RetVE (w : World) (v : Value) (err : Int) (en : Ending) (w' : World) : Prop:=en = .returned (.tuple #[v,.int .i64 err])∧Ext w w'
set_option maxRecDepth 100000 in
set_option maxHeartbeats 3200000 in
theorem cells_find {m : Mem} {vs : List Value} {s : Value} {w : World} (p : Ptr) (n : Int) (hin : All2 (fun s a=>Cls w s a.cells) vs m.al) (hout : Sl w 3 s m.al.length (trows arow vs m.al)) (hn : i64B m.next) :
  Calls Tryd.prog 65 #[.agg #[s,.int .i64 m.next],p.val,.int .i64 n] w (RetVE w (findV m vs p n) (askR m p n).2):=by
 have hl : Als w s m.al:=⟨vs,hin,hout⟩
 obtain ⟨pa,po,pt⟩:=p
 have hE0:=((Ext.refl w).alloc (.cells #[s,.int .i64 m.next] 31)).alloc (.cells #[.int .i64 pa,.int .i64 po,.int .i64 pt] 26)
 obtain ⟨a,cp,rfl,hlc,hcm,-⟩:=hl.form
 unfold maxLen at hcm
 have bM:=(Box.new w 31 #[.slice a m.al.length cp,.int .i64 m.next]).ext ((Ext.refl _).alloc (.cells #[.int .i64 pa,.int .i64 po,.int .i64 pt] 26))
 have bP:=Box.new (w.alloc (.cells #[.slice a m.al.length cp,.int .i64 m.next] 31)) 26 #[.int .i64 pa,.int .i64 po,.int .i64 pt]
 rw [World.size_alloc] at bP
 have hCk:=Lib.hid (allocs_Check (hl.ext hE0) hn)
 have hL:=Lib.hid hl
 have hmf : ∀ (fn : Fn) (first cap : Array Value) (w : World),(Instr.makeFunc fn first cap).run Tryd.prog w = .ok (.func fn first cap) w:=fun _ _ _ _=>rfl
 unfold Ptr.val
 cases hok : m.ok
 ·have hce : Hid (memErr m.al m.next=8):=Hid.mk (memErr_bad hok)
  have hres : Hid (findV m vs ⟨pa,po,pt⟩ n = .slice none 0 0∧(askR m ⟨pa,po,pt⟩ n).2=8):=Hid.mk (by simp [findV,askR_bad hok])
  clear hok hl hin hout
  go_enter Tryd.func65,Tryd.ntmps65
  go_wp2_with fail
  refine hCk.out.mono ?_
  rintro e w1 ⟨rfl,hE1⟩
  rw [hce.out]
  go_wp2
  go_ret2
  rw [hres.out.1,hres.out.2]
  exact ⟨rfl,hE0.trans hE1⟩
 ·have hce : Hid (memErr m.al m.next=0):=Hid.mk (memErr_ok hok)
  have hbn:=ok_bounds hok
  by_cases harg : pa < 0∨m.next≤pa∨n < 1∨2 < n
  ·have hres : Hid (findV m vs ⟨pa,po,pt⟩ n = .slice none 0 0∧(askR m ⟨pa,po,pt⟩ n).2=2):=Hid.mk (by simp [findV,askR_arg (p:=⟨pa,po,pt⟩) hok harg])
   have q : decide (pa < 0)=true∨decide (pa < 0)=false∧decide (m.next≤pa)=true∨decide (pa < 0)=false∧decide (m.next≤pa)=false∧decide (n < 1)=true∨decide (pa < 0)=false∧decide (m.next≤pa)=false∧decide (n < 1)=false∧decide (2 < n)=true:=by
    by_cases h1 : pa < 0
    ·exact .inl (decide_eq_true h1)
    ·by_cases h2 : m.next≤pa
     ·exact .inr (.inl ⟨decide_eq_false h1,decide_eq_true h2⟩)
     ·by_cases h3 : n < 1
      ·exact .inr (.inr (.inl ⟨decide_eq_false h1,decide_eq_false h2,decide_eq_true h3⟩))
      ·exact .inr (.inr (.inr ⟨decide_eq_false h1,decide_eq_false h2,decide_eq_false h3,decide_eq_true (by omega)⟩))
   clear hok hl hin hout harg
   rcases q with q1 | ⟨q1,q2⟩ | ⟨q1,q2,q3⟩ | ⟨q1,q2,q3,q4⟩
   all_goals
    go_enter Tryd.func65,Tryd.ntmps65
    go_wp2_with fail
    refine hCk.out.mono ?_
    rintro e w1 ⟨rfl,hE1⟩
    rw [hce.out]
    have m1 : w1.cell? ⟨w.heap.size,1,none⟩=some (.int .i64 m.next):=(bM.ext hE1).cell 1
    have p0 : w1.cell? ⟨w.heap.size+1,0,none⟩=some (.int .i64 pa):=(bP.ext hE1).cell 0
    go_wp2
    go_ret2
    rw [hres.out.1,hres.out.2]
    exact ⟨rfl,hE0.trans hE1⟩
  ·have q1 : decide (pa < 0)=false:=decide_eq_false (by omega)
   have q2 : decide (m.next≤pa)=false:=decide_eq_false (by omega)
   have q3 : decide (n < 1)=false:=decide_eq_false (by omega)
   have q4 : decide (2 < n)=false:=decide_eq_false (by omega)
   have hn2 : 1≤n∧n≤2:=by omega
   cases hat : atNum m.al pa with
   | none =>
    have hix : Hid (ixM (m.al.findIdx? (numIs pa)) = -1):=Hid.mk (idxM_none hat)
    have hres : Hid (findV m vs ⟨pa,po,pt⟩ n = .slice none 0 0∧(askR m ⟨pa,po,pt⟩ n).2=0):=Hid.mk (by simp [findV,askR_none (p:=⟨pa,po,pt⟩) hok harg hat])
    clear hok hl hin hout harg hat
    go_enter Tryd.func65,Tryd.ntmps65
    go_wp2_with fail
    refine hCk.out.mono ?_
    rintro e w1 ⟨rfl,hE1⟩
    rw [hce.out]
    have hF1:=hE0.trans hE1
    have m0 : w1.cell? ⟨w.heap.size,0,none⟩=some (.slice a m.al.length cp):=(bM.ext hE1).cell 0
    have m1 : w1.cell? ⟨w.heap.size,1,none⟩=some (.int .i64 m.next):=(bM.ext hE1).cell 1
    have p0 : w1.cell? ⟨w.heap.size+1,0,none⟩=some (.int .i64 pa):=(bP.ext hE1).cell 0
    go_wp2_with fail
    refine (indexFunc_alloc callFunc_cellsfind (cells_find1 pa (w.heap.size+1) w1 p0) (hL.out.ext hF1)).mono ?_
    rintro e w2 ⟨rfl,hE2⟩
    rw [hix.out]
    go_wp2
    go_ret2
    rw [hres.out.1,hres.out.2]
    exact ⟨rfl,hF1.trans hE2⟩
   | some i =>
    have hix : Hid (ixM (m.al.findIdx? (numIs pa))=(i : Int)):=Hid.mk (idxM_some hat)
    have hil:=(atNum_lt hat).1
    obtain ⟨x,hx⟩ : ∃ x,m.al[i]? = some x:=⟨m.al[i],by simp [hil]⟩
    have hi2 : decide ((i : Int) < 0)=false:=decide_eq_false (by omega)
    have hi0 : (0 : Int)≤(i : Int):=by omega
    have hi1 : (i : Int) < (m.al.length : Int):=by omega
    obtain ⟨sv,hsv,hcl⟩:=hin.get hx
    obtain ⟨b,off,e,hbb,hcell⟩:=Sl.at hout (by omega) (by omega : 0 < m.al.length)
    subst e
    obtain ⟨ca,ccp,rfl,hcl1,hcl2,-⟩:=hcl.form
    unfold maxLen at hcl2
    have d : ∀ j u,(arow (.slice ca x.cells.length ccp) x)[j]? = some u→w.cell? ⟨b,off+(i * 3+j),none⟩=some u:=fun j u hj=>hcell _ u ((trows_get arow arow_len hsv hx (by have:=(List.getElem?_eq_some_iff.1 hj).1;simpa [arow_len] using this)).trans hj)
    have d0 : w.cell? ⟨b,off+i * 3,none⟩=some (.int .i64 x.num):=d 0 _ rfl
    have d1 : w.cell? ⟨b,off+i * 3+1,none⟩=some (.bool x.live):=d 1 _ rfl
    have d2 : w.cell? ⟨b,off+i * 3+2,none⟩=some (.slice ca x.cells.length ccp):=d 2 _ rfl
    have hx2 : x.cells.length≤1000000:=(small_of_ok hok).2 x (List.mem_of_getElem? hx)
    have hvd : vs.getD i (.slice none 0 0) = .slice ca x.cells.length ccp:=by rw [List.getD_eq_getElem?_getD,hsv];rfl
    by_cases ho : po < 0∨(x.cells.length : Int) - n < po
    ·have hres : Hid (findV m vs ⟨pa,po,pt⟩ n = .slice none 0 0∧(askR m ⟨pa,po,pt⟩ n).2=6):=Hid.mk (by simp [findV,askR_off (p:=⟨pa,po,pt⟩) hok harg hat hx ho])
     have q5 : decide (po < 0)=true∨decide (po < 0)=false∧decide ((x.cells.length : Int) - n < po)=true:=by
      by_cases h : po < 0
      ·exact .inl (decide_eq_true h)
      ·exact .inr ⟨decide_eq_false h,decide_eq_true (by omega)⟩
     have hH:=Lib.hid (And.intro d0 (And.intro d1 d2))
     clear hok hl hin hout harg hat hx hsv hcl hcell d d0 d1 d2 ho hvd
     rcases q5 with q5 | ⟨q5,q6⟩
     all_goals
      go_enter Tryd.func65,Tryd.ntmps65
      go_wp2_with fail
      refine hCk.out.mono ?_
      rintro e w1 ⟨rfl,hE1⟩
      rw [hce.out]
      have hF1:=hE0.trans hE1
      have m0 : w1.cell? ⟨w.heap.size,0,none⟩=some (.slice (some ⟨b,off,none⟩) m.al.length cp):=(bM.ext hE1).cell 0
      have m1 : w1.cell? ⟨w.heap.size,1,none⟩=some (.int .i64 m.next):=(bM.ext hE1).cell 1
      have p0 : w1.cell? ⟨w.heap.size+1,0,none⟩=some (.int .i64 pa):=(bP.ext hE1).cell 0
      go_wp2_with fail
      refine (indexFunc_alloc callFunc_cellsfind (cells_find1 pa (w.heap.size+1) w1 p0) (hL.out.ext hF1)).mono ?_
      rintro e w2 ⟨rfl,hE2⟩
      rw [hix.out]
      have hF2:=hF1.trans hE2
      have n0:=hE2.cell m0
      have o1 : w2.cell? ⟨w.heap.size+1,1,none⟩=some (.int .i64 po):=((bP.ext hE1).ext hE2).cell 1
      have ol:=((bP.ext hE1).ext hE2).lt
      have e0:=hF2.cell hH.out.1
      have e1:=hF2.cell hH.out.2.1
      have e2:=hF2.cell hH.out.2.2
      clear m0 m1 p0
      go_wp2
      go_ret2
      rw [hres.out.1,hres.out.2]
      exact ⟨rfl,hF2.alloc _⟩
    ·have q5 : decide (po < 0)=false:=decide_eq_false (by omega)
     have q6 : decide ((x.cells.length : Int) - n < po)=false:=decide_eq_false (by omega)
     have hask:=askR_yes (p:=⟨pa,po,pt⟩) hok harg hat hx ho
     have hgd : m.al.getD i Alloc.zero=x:=by rw [List.getD_eq_getElem?_getD,hx];rfl
     obtain ⟨o,rfl⟩ : ∃ o : Nat,po=(o : Int):=⟨po.toNat,by omega⟩
     obtain ⟨k,rfl⟩ : ∃ k : Nat,n=(k : Int):=⟨n.toNat,by omega⟩
     have hok2 : o+k≤x.cells.length:=by omega
     obtain ⟨ci,cz,hci,hcz,hci3,hcz3,hcby⟩:=Cell.infoE
     have hcut:=run_slice_mid (P:=Tryd.prog) Tryd.underlying24 hci hci3 ca x.cells.length ccp (o : Int) ((o : Int)+(k : Int)) o k rfl (by omega) (by omega)
     obtain ⟨cv,hcv⟩ : ∃ cv,cutV (.slice ca x.cells.length ccp) o k=cv:=⟨_,rfl⟩
     rw [hcv] at hcut
     have hres : Hid (findV m vs ⟨pa,o,pt⟩ k=(if x.live then cv else .slice none 0 0)∧(askR m ⟨pa,o,pt⟩ k).2=0):=Hid.mk (by
      refine ⟨?_,by rw [hask]⟩
      unfold findV
      rw [hask]
      show (if (m.al.getD i Alloc.zero).live=true then cutV (vs.getD i (.slice none 0 0)) (Int.toNat (o : Int)) (Int.toNat (k : Int)) else _)=_
      rw [hgd,hvd,Int.toNat_natCast,Int.toNat_natCast,hcv])
     have hsb : 0≤(o : Int):=by omega
     have hsb2 : (o : Int)+(k : Int)≤2000000:=by omega
     have hH:=Lib.hid (And.intro d0 (And.intro d1 d2))
     clear hok hl hin hout harg hat hx hsv hcl hcell d d0 d1 d2 ho hvd hask hgd hci hcz hci3 hcz3 hcby hcv
     cases hlv : x.live
     all_goals
      have hlv':=Lib.hid hlv
      rw [hlv] at hres
      clear hlv
      go_enter Tryd.func65,Tryd.ntmps65
      go_wp2_with fail
      refine hCk.out.mono ?_
      rintro e w1 ⟨rfl,hE1⟩
      rw [hce.out]
      have hF1:=hE0.trans hE1
      have m0 : w1.cell? ⟨w.heap.size,0,none⟩=some (.slice (some ⟨b,off,none⟩) m.al.length cp):=(bM.ext hE1).cell 0
      have m1 : w1.cell? ⟨w.heap.size,1,none⟩=some (.int .i64 m.next):=(bM.ext hE1).cell 1
      have p0 : w1.cell? ⟨w.heap.size+1,0,none⟩=some (.int .i64 pa):=(bP.ext hE1).cell 0
      go_wp2_with fail
      refine (indexFunc_alloc callFunc_cellsfind (cells_find1 pa (w.heap.size+1) w1 p0) (hL.out.ext hF1)).mono ?_
      rintro e w2 ⟨rfl,hE2⟩
      rw [hix.out]
      have hF2:=hF1.trans hE2
      have n0:=hE2.cell m0
      have o1 : w2.cell? ⟨w.heap.size+1,1,none⟩=some (.int .i64 (o : Int)):=((bP.ext hE1).ext hE2).cell 1
      have ol:=((bP.ext hE1).ext hE2).lt
      have e0:=hF2.cell hH.out.1
      have e1:=hF2.cell hH.out.2.1
      rw [hlv'.out] at e1
      have e2:=hF2.cell hH.out.2.2
      clear m0 m1 p0
      go_wp2
      go_ret2
      rw [hres.out.1,hres.out.2]
      exact ⟨rfl,hF2.alloc _⟩
end Go.Proofs.YtnplphcnagooeaaDoor

/- Contracts: Asked of the reference of layer 27. -/
namespace Go.Proofs.YtnplphcnagooeaaDoor
set_option maxRecDepth 100000
open Go.RowKit
end Go.Proofs.YtnplphcnagooeaaDoor

/- Contracts: LoadAll and Load of layer 27, the program's and the reference's. -/
namespace Go.Proofs.YtnplphcnagooeaaDoor
set_option maxRecDepth 100000
open Go.RowKit
theorem loadR_err {m : Mem} {p : Ptr} {n err : Int} (h : (askR m p n).2=err) (he : err≠0) : loadR m p n=([],0,err):=by
 subst h
 rw [loadR,if_neg he]
theorem rangeR_none {m : Mem} {p : Ptr} {n e : Int} (h : askR m p n=(none,e)) : rangeR m p n=[]:=by rw [rangeR,h]
theorem rangeR_dead {m : Mem} {p : Ptr} {n e : Int} {i : Nat} {x : Alloc} (h : askR m p n=(some i,e)) (hx : m.al[i]? = some x) (hl : x.live=false) : rangeR m p n=[]:=by
 have hg : m.al.getD i Alloc.zero=x:=by rw [List.getD_eq_getElem?_getD,hx];rfl
 rw [rangeR,h]
 show (if (m.al.getD i Alloc.zero).live=true then _ else _)=_
 rw [hg,hl]
 rfl
theorem rangeR_live {m : Mem} {p : Ptr} {n e : Int} {i : Nat} {x : Alloc} (h : askR m p n=(some i,e)) (hx : m.al[i]? = some x) (hl : x.live=true) : rangeR m p n=cutOf x p.o.toNat n.toNat:=by
 have hg : m.al.getD i Alloc.zero=x:=by rw [List.getD_eq_getElem?_getD,hx];rfl
 rw [rangeR,h]
 show (if (m.al.getD i Alloc.zero).live=true then cutOf (m.al.getD i Alloc.zero) _ _ else _)=_
 rw [hg,hl]
 rfl
theorem loadR_gone {m : Mem} {p : Ptr} {n : Int} (h : (askR m p n).2=0) (hr : rangeR m p n=[]) : loadR m p n=([],3,0):=by
 rw [loadR,if_pos h,if_pos hr]
theorem loadR_unset {m : Mem} {p : Ptr} {n : Int} (h : (askR m p n).2=0) (hr : rangeR m p n≠[]) (hz : (rangeR m p n).any (· == Cell.zero)=true) : loadR m p n=([],4,0):=by
 rw [loadR,if_pos h,if_neg hr,if_pos hz]
theorem loadR_yes {m : Mem} {p : Ptr} {n : Int} (h : (askR m p n).2=0) (hr : rangeR m p n≠[]) (hz : (rangeR m p n).any (· == Cell.zero)=false) : loadR m p n=(rangeR m p n,0,0):=by
 rw [loadR,if_pos h,if_neg hr,hz]
 rfl
theorem askR_inv {m : Mem} {p : Ptr} {n e : Int} {i : Nat} (h : askR m p n=(some i,e)) :
  e=0∧m.ok=true∧0≤p.a∧p.a < m.next∧1≤n∧n≤2∧atNum m.al p.a=some i ∧ ∃ x,m.al[i]? = some x∧0≤p.o∧p.o+n≤(x.cells.length : Int):=by
 unfold askR at h
 split at h
 ·rename_i hok
  split at h
  ·cases h
  ·rename_i harg
   split at h
   ·cases h
   ·rename_i j hj
    split at h
    ·cases h
    ·rename_i ho
     simp only [Prod.mk.injEq,Option.some.injEq] at h
     obtain ⟨rfl,rfl⟩:=h
     have hlt:=(atNum_lt hj).1
     have hg : m.al.getD j Alloc.zero=m.al[j]:=by rw [List.getD_eq_getElem?_getD,List.getElem?_eq_getElem hlt];rfl
     rw [hg] at ho
     exact ⟨rfl,hok,by omega,by omega,by omega,by omega,hj,m.al[j],List.getElem?_eq_getElem hlt,by omega,by omega⟩
 ·cases h
theorem cutOf_len {x : Alloc} {o n : Nat} (h : o+n≤x.cells.length) : (cutOf x o n).length=n:=by
 rw [cutOf,List.length_take,List.length_drop]
 omega
def RetOC (w : World) (l : List Cell) (why err : Int) (en : Ending) (w' : World) : Prop :=
 ∃ v,en = .returned (.tuple #[v,.int .u8 why,.int .i64 err])∧Own w' w.heap.size 28 5 v l.length (l.flatMap Cell.row)∧Ext w w'
set_option maxHeartbeats 3200000 in
theorem run_eql_cells (x y : Cell) (w : World) : (binOp .eql 28 x.val y.val).run Tryd.prog w = .ok (.bool (decide (x=y))) w:=by
 obtain ⟨k,n,a,o,t⟩:=x
 obtain ⟨k',n',a',o',t'⟩:=y
 unfold Cell.val
 go_simp
 by_cases h1 : k=k' <;> by_cases h2 : n=n' <;> by_cases h3 : a=a' <;> by_cases h4 : o=o' <;> by_cases h5 : t=t' <;> simp [h1,h2,h3,h4,h5]
theorem run_eql_zero (x : Cell) (w : World) : (binOp .eql 28 Cell.zero.val x.val).run Tryd.prog w = .ok (.bool (x == Cell.zero)) w:=by
 have e : (x == Cell.zero)=decide (Cell.zero=x):=by
  rw [Bool.eq_iff_iff,beq_iff_eq,decide_eq_true_iff]
  exact eq_comm
 rw [run_eql_cells,e]
set_option maxHeartbeats 800000 in
theorem index_zero {l : List Cell} {v : Value} {w : World} (hl : Cls w v l) :
  Calls Tryd.prog 95 #[v,Cell.zero.val] w fun e w'=>e = .returned (.int .i64 (ixM (l.findIdx? (· == Cell.zero))))∧Ext w w':=by
 have hE0:=(Ext.refl w).alloc (.cells #[.int .u8 0,.int .i64 0,.int .i64 0,.int .i64 0,.int .i64 0] 28)
 have hL:=Lib.hid (hl.ext hE0)
 obtain ⟨a,cp,rfl,hlc,hcm,-⟩:=hl.form
 unfold maxLen at hcm
 have hB:=Box.new w 28 #[.int .u8 0,.int .i64 0,.int .i64 0,.int .i64 0,.int .i64 0]
 clear hl
 rw [show Cell.zero.val = .agg #[.int .u8 0,.int .i64 0,.int .i64 0,.int .i64 0,.int .i64 0] from rfl]
 go_enter Tryd.func95,Tryd.ntmps95
 go_wp2
 obtain ⟨w1,hw1⟩ : ∃ w1,w.alloc (.cells #[.int .u8 0,.int .i64 0,.int .i64 0,.int .i64 0,.int .i64 0] 28)=w1:=⟨_,rfl⟩
 rw [hw1] at hE0 hL hB ⊢
 clear hw1
 go_loopw [8] (fun i wr => ∃ k : Nat,k≤l.length∧i = .int .i64 k∧Ext w1 wr∧Hid ((l.take k).any (· == Cell.zero)=false)) (fun i _=>l.length - (intOf i).toNat)
 case atStart=>exact ⟨0,Nat.zero_le _,rfl,Ext.refl _,by simp [Hid]⟩
 case round =>
  obtain ⟨k,hk,rfl,hE,hN⟩:=hrel
  have z0 : wr.cell? ⟨w.heap.size,0,none⟩=some (.int .u8 0):=(hB.ext hE).cell 0
  have z1 : wr.cell? ⟨w.heap.size,1,none⟩=some (.int .i64 0):=(hB.ext hE).cell 1
  have z2 : wr.cell? ⟨w.heap.size,2,none⟩=some (.int .i64 0):=(hB.ext hE).cell 2
  have z3 : wr.cell? ⟨w.heap.size,3,none⟩=some (.int .i64 0):=(hB.ext hE).cell 3
  have z4 : wr.cell? ⟨w.heap.size,4,none⟩=some (.int .i64 0):=(hB.ext hE).cell 4
  by_cases hlt : k < l.length
  ·obtain ⟨x,hx⟩ : ∃ x,l[k]? = some x:=⟨l[k],by simp [hlt]⟩
   obtain ⟨b,off,rfl,hbb,c0,c1,c2,c3,c4⟩:=(hL.out.ext hE).cell hx
   have hX:=Lib.hid hx
   clear hx
   have hi0 : (0 : Int)≤(k : Int):=by omega
   have hi1 : (k : Int) < (l.length : Int):=by omega
   have hn:=run_eql_zero x
   unfold Cell.val Cell.zero at hn
   cases hpx : x == Cell.zero
   all_goals
    have hP:=Lib.hid hpx
    rw [show (x == ({ k:=0,n:=0,a:=0,o:=0,t:=0 } : Cell))=_ from hpx] at hn
    clear hpx
    go_wp2
    go_quiet (fail)
    go_wp2
   ·go_roundw
    case rel=>exact ⟨k+1,by omega,by go_num,hE.drewN _,any_take_succ'' hN.out hX.out hP.out⟩
    case measure=>simp [intOf];omega
   ·go_ret
    refine ⟨?_,hE0.trans (hE.drewN _)⟩
    have : l.findIdx? (· == Cell.zero)=some k:=by
     rw [List.findIdx?_eq_some_iff_getElem]
     obtain ⟨hk,rfl⟩:=List.getElem?_eq_some_iff.1 hX.out
     refine ⟨hk,hP.out,fun j hj => ?_⟩
     have h:=hN.out
     simp only [List.any_eq_false] at h
     have:=h l[j] (by rw [List.mem_iff_getElem?];exact ⟨j,by rw [List.getElem?_take,if_pos hj];simp⟩)
     simpa using this
    rw [this];rfl
  ·have hkl : k=l.length:=by omega
   subst hkl
   have hN':=hN.out
   rw [List.take_length] at hN'
   have hg : Hid (l.findIdx? (· == Cell.zero)=none):=Hid.mk (by rw [List.findIdx?_eq_none_iff];simpa [List.any_eq_false] using hN')
   clear hN' z0 z1 z2 z3 z4
   go_wp2
   go_ret
   exact ⟨by rw [hg.out];rfl,hE0.trans hE⟩
theorem ixM_any {l : List Cell} : decide (0≤ixM (l.findIdx? (· == Cell.zero)))=l.any (· == Cell.zero):=by
 cases h : l.findIdx? (· == Cell.zero) with
 | none =>
  have h' : l.any (· == Cell.zero)=false:=by rw [List.findIdx?_eq_none_iff] at h;simpa [List.any_eq_false] using h
  rw [h'];simp [ixM]
 | some i =>
  have h' : l.any (· == Cell.zero)=true:=by
   rw [List.findIdx?_eq_some_iff_getElem] at h
   obtain ⟨hi,hp,_⟩:=h
   rw [List.any_eq_true]
   exact ⟨l[i],List.getElem_mem _,hp⟩
  rw [h'];simp [ixM]
set_option maxHeartbeats 400000 in
theorem contains_zero {l : List Cell} {v : Value} {w : World} (hl : Cls w v l) :
  Calls Tryd.prog 73 #[v,Cell.zero.val] w fun e w'=>e = .returned (.bool (l.any (· == Cell.zero)))∧Ext w w':=by
 have hE0:=(Ext.refl w).alloc (.cells #[.int .u8 0,.int .i64 0,.int .i64 0,.int .i64 0,.int .i64 0] 28)
 have hC:=Lib.hid (index_zero (hl.ext hE0))
 have hA:=Lib.hid (ixM_any (l:=l))
 obtain ⟨a,cp,rfl,-⟩:=hl.form
 unfold Cell.val Cell.zero at *
 clear hl
 go_enter Tryd.func73,Tryd.ntmps73
 go_wp2_with fail
 refine hC.out.mono ?_
 rintro e w' ⟨rfl,hE'⟩
 go_wp2
 go_ret
 exact ⟨by rw [← hA.out];rfl,hE0.trans hE'⟩
theorem findV_read {m : Mem} {vs : List Value} {w : World} (p : Ptr) (n : Int) (hin : All2 (fun s a=>Cls w s a.cells) vs m.al) : Cls w (findV m vs p n) (rangeR m p n):=by
 unfold findV rangeR
 cases h : (askR m p n).1 with
 | none=>exact Cls.nil w
 | some i =>
  obtain ⟨-,-,-,-,h1,h2,-,x,hx,h3,h4⟩:=askR_inv (e:=(askR m p n).2) (by rw [← h])
  obtain ⟨s,hs,hc⟩:=hin.get hx
  have hg : m.al.getD i Alloc.zero=x:=by rw [List.getD_eq_getElem?_getD,hx];rfl
  have hv : vs.getD i (.slice none 0 0)=s:=by rw [List.getD_eq_getElem?_getD,hs];rfl
  show Cls w (if (m.al.getD i Alloc.zero).live=true then cutV (vs.getD i (.slice none 0 0)) p.o.toNat n.toNat else _) (if (m.al.getD i Alloc.zero).live=true then cutOf (m.al.getD i Alloc.zero) p.o.toNat n.toNat else [])
  rw [hg,hv]
  cases x.live
  ·exact Cls.nil w
  ·exact hc.cut _ _ (by omega)
theorem rangeR_small {m : Mem} {p : Ptr} {n : Int} : (rangeR m p n).length≤2:=by
 unfold rangeR
 cases h : (askR m p n).1 with
 | none=>simp
 | some i =>
  obtain ⟨-,-,-,-,h1,h2,-,x,hx,h3,h4⟩:=askR_inv (e:=(askR m p n).2) (by rw [← h])
  show (if (m.al.getD i Alloc.zero).live=true then cutOf (m.al.getD i Alloc.zero) p.o.toNat n.toNat else []).length≤2
  split
  ·rw [cutOf,List.length_take];omega
  ·simp
set_option maxRecDepth 100000 in
set_option maxHeartbeats 1600000 in
theorem cells_LoadAll {m : Mem} {s : Value} {w : World} (p : Ptr) (n : Int) (hl : Als w s m.al) (hn : i64B m.next) :
  Calls Tryd.prog 35 #[.agg #[s,.int .i64 m.next],p.val,.int .i64 n] w (RetOC w (loadR m p n).1 (loadR m p n).2.1 (loadR m p n).2.2):=by
 obtain ⟨vs,hin,hout⟩:=hl
 have hE0:=((Ext.refl w).alloc (.cells #[s,.int .i64 m.next] 31)).alloc (.cells #[.int .i64 p.a,.int .i64 p.o,.int .i64 p.t] 26)
 have hin0 : All2 (fun u a=>Cls ((w.alloc (.cells #[s,.int .i64 m.next] 31)).alloc (.cells #[.int .i64 p.a,.int .i64 p.o,.int .i64 p.t] 26)) u a.cells) vs m.al:=hin.mono fun _ _ h=>Cls.ext h hE0
 have hC:=Lib.hid (cells_find p n hin0 (hout.ext hE0) hn)
 have hR:=Lib.hid (findV_read p n hin0)
 obtain ⟨a,cp,rfl,-⟩:=hout.slice_form
 obtain ⟨fv,hfv⟩ : ∃ fv,findV m vs p n=fv:=⟨_,rfl⟩
 rw [hfv] at hC hR
 obtain ⟨err,herr⟩ : ∃ err,(askR m p n).2=err:=⟨_,rfl⟩
 rw [herr] at hC
 have hsm:=Lib.hid (rangeR_small (m:=m) (p:=p) (n:=n))
 clear hfv hin hin0 hout
 by_cases he : err=0
 ·subst he
  by_cases hr : rangeR m p n=[]
  ·have hres:=Lib.hid (loadR_gone herr hr)
   have hR0:=hR.out
   rw [hr] at hR0
   obtain ⟨ra,rc,rfl,-⟩:=hR0.form
   clear hR hR0 hr herr
   unfold Ptr.val at *
   go_enter Tryd.func35,Tryd.ntmps35
   go_wp2_with fail
   refine hC.out.mono ?_
   rintro e w1 ⟨rfl,hE1⟩
   dsimp only [List.length_nil]
   go_wp2
   go_ret3
   rw [hres.out]
   exact ⟨_,rfl,Own.nil _ _ _ _,hE0.trans hE1⟩
  ·have hlen : 0 < (rangeR m p n).length:=List.length_pos_iff.2 hr
   have hld : ((rangeR m p n).length == 0)=false:=by simp;exact hr
   obtain ⟨ra,rc,hre,-⟩:=hR.out.form
   have hld' : (((rangeR m p n).length : Int) == 0)=false:=by simp;exact hr
   subst hre
   cases hz : (rangeR m p n).any (· == Cell.zero)
   ·have hres:=Lib.hid (loadR_yes herr hr hz)
    have hz':=Lib.hid hz
    obtain ⟨L,hL⟩ : ∃ L,rangeR m p n=L:=⟨_,rfl⟩
    rw [hL] at hR hz' hsm hres hC hlen hld hld'
    clear hr herr hz hL
    unfold Ptr.val at *
    go_enter Tryd.func35,Tryd.ntmps35
    go_wp2_with fail
    refine hC.out.mono ?_
    rintro e w1 ⟨rfl,hE1⟩
    go_wp2_with fail
    refine (contains_zero (hR.out.ext hE1)).mono ?_
    rintro e w2 ⟨rfl,hE2⟩
    rw [hz'.out]
    go_wp2_with fail
    refine (clone_Cells ((hR.out.ext hE1).ext hE2) (Cell.one L) (Nat.le_trans hsm.out (by omega))).mono ?_
    rintro e w3 ⟨v,rfl,hO,hE3⟩
    have hF:=(hE0.trans hE1).trans hE2
    obtain ⟨va,vc,rfl,-⟩:=hO.sl.slice_form
    go_wp2
    go_ret3
    rw [hres.out]
    exact ⟨_,rfl,hO.mono hF.size,hF.trans hE3⟩
   ·have hres:=Lib.hid (loadR_unset herr hr hz)
    have hz':=Lib.hid hz
    obtain ⟨L,hL⟩ : ∃ L,rangeR m p n=L:=⟨_,rfl⟩
    rw [hL] at hR hz' hsm hC hlen hld hld'
    clear hr herr hz hL
    unfold Ptr.val at *
    go_enter Tryd.func35,Tryd.ntmps35
    go_wp2_with fail
    refine hC.out.mono ?_
    rintro e w1 ⟨rfl,hE1⟩
    go_wp2_with fail
    refine (contains_zero (hR.out.ext hE1)).mono ?_
    rintro e w2 ⟨rfl,hE2⟩
    rw [hz'.out]
    go_wp2
    go_ret3
    rw [hres.out]
    exact ⟨_,rfl,Own.nil _ _ _ _,(hE0.trans hE1).trans hE2⟩
 ·have hres:=Lib.hid (loadR_err herr he)
  have q : (err != 0)=true:=by simp [he]
  have q' : (err == 0)=false:=by simp [he]
  obtain ⟨ra,rc,hre,-⟩:=hR.out.form
  subst hre
  clear hR he herr
  unfold Ptr.val at *
  go_enter Tryd.func35,Tryd.ntmps35
  go_wp2_with fail
  refine hC.out.mono ?_
  rintro e w1 ⟨rfl,hE1⟩
  go_wp2
  go_ret3
  rw [hres.out]
  exact ⟨_,rfl,Own.nil _ _ _ _,hE0.trans hE1⟩
end Go.Proofs.YtnplphcnagooeaaDoor

/- The example of layer 26. -/
namespace Go.Proofs.YtnplphcnagooeaaDoor
set_option maxRecDepth 100000
open Go.RowKit
end Go.Proofs.YtnplphcnagooeaaDoor

/- Contract: others of the statements of layer 26; what Add and End leave aas it is. -/
namespace Go.Proofs.YtnplphcnagooeaaDoor
set_option maxRecDepth 100000
open Go.RowKit
theorem okAl_at {next least : Int} {l : List Alloc} (h : okAl next least l=true) {i : Nat} {x : Alloc} (hx : l[i]? = some x) : least≤x.num∧x.num < next:=by
 induction l generalizing least i with
 | nil=>simp at hx
 | cons a l ih =>
  simp only [okAl,Bool.and_eq_true,decide_eq_true_eq] at h
  cases i with
  | zero =>
   simp only [List.getElem?_cons_zero,Option.some.injEq] at hx
   subst hx
   omega
  | succ i =>
   have:=ih h.2 (i:=i) (by simpa using hx)
   omega
theorem okAl_lt {next least : Int} {l : List Alloc} (h : okAl next least l=true) {i j : Nat} {x y : Alloc} (hij : i < j) (hx : l[i]? = some x) (hy : l[j]? = some y) : x.num < y.num:=by
 induction l generalizing least i j with
 | nil=>simp at hx
 | cons a l ih =>
  simp only [okAl,Bool.and_eq_true,decide_eq_true_eq] at h
  cases j with
  | zero=>omega
  | succ j =>
   cases i with
   | zero =>
    simp only [List.getElem?_cons_zero,Option.some.injEq] at hx
    subst hx
    have:=okAl_at h.2 (i:=j) (by simpa using hy)
    omega
   | succ i=>exact ih h.2 (i:=i) (j:=j) (by omega) (by simpa using hx) (by simpa using hy)
theorem atNum_at {next least : Int} {l : List Alloc} (h : okAl next least l=true) {i : Nat} {x : Alloc} (hx : l[i]? = some x) : atNum l x.num=some i:=by
 obtain ⟨hi,e⟩:=List.getElem?_eq_some_iff.1 hx
 unfold atNum
 rw [List.findIdx?_eq_some_iff_getElem]
 refine ⟨hi,by rw [e];simp,fun j hj hb => ?_⟩
 have:=okAl_lt h (i:=j) (j:=i) hj (List.getElem?_eq_getElem (by omega)) hx
 simp at hb
 omega
theorem ok_al {m : Mem} (h : m.ok=true) : okAl m.next 0 m.al=true:=by
 unfold Mem.ok okM at h
 simp only [Bool.and_eq_true] at h
 exact h.2
theorem okAl_push {next least : Int} {l : List Alloc} {k : Nat} (h : okAl next least l=true) (hle : least≤next) (hk : 1≤k∧k≤2) : okAl (next+1) least (l ++ [newAlloc next k])=true:=by
 induction l generalizing least with
 | nil =>
  have hc : (newAlloc next k).cells.all (fun c=>c.ok && ((newAlloc next k).live || c.k == 0))=true:=by
   simp only [newAlloc,List.all_eq_true]
   intro c hc
   rw [List.eq_of_mem_replicate hc]
   rfl
  simp only [List.nil_append,okAl,hc,Bool.and_true,Bool.and_eq_true,decide_eq_true_eq]
  simp [newAlloc]
  omega
 | cons a l ih =>
  rw [List.cons_append]
  simp only [okAl,Bool.and_eq_true,decide_eq_true_eq] at h ⊢
  exact ⟨⟨⟨⟨⟨h.1.1.1.1.1,by omega⟩,h.1.1.1.2⟩,h.1.1.2⟩,h.1.2⟩,ih h.2 (by omega)⟩
theorem ok_push {m : Mem} {k : Nat} (h : m.ok=true) (hf : ¬ (m.al.length=400∨m.next=1000000)) (hk : 1≤k∧k≤2) : (⟨m.al ++ [newAlloc m.next k],m.next+1⟩ : Mem).ok=true:=by
 obtain ⟨h1,h2,h3⟩:=ok_bounds h
 have h4:=okAl_push (ok_al h) h2 hk
 unfold Mem.ok okM inB
 simp only [Bool.and_eq_true,decide_eq_true_eq]
 refine ⟨⟨?_,by omega⟩,h4⟩
 simp
 omega
end Go.Proofs.YtnplphcnagooeaaDoor

/- Plain laws of layers 26 and 27: what a store leaves, and what is loaded afterwards; no program is walked. -/
namespace Go.Proofs.YtnplphcnagooeaaDoor
set_option maxRecDepth 100000
open Go.RowKit
theorem okAl_put {next : Int} {y : Alloc} : ∀ (l : List Alloc) (least : Int) (i : Nat) (x : Alloc),okAl next least l=true→l[i]? = some x→y.num=x.num→1≤y.cells.length→y.cells.length≤2 →
  y.cells.all (cellIn y.live)=true→okAl next least (l.set i y)=true
 | [],_,i,x,_,h,_,_,_,_=>by simp at h
 | a :: l,least,0,x,h,hx,h1,h2,h3,h4=>by
  simp only [List.getElem?_cons_zero,Option.some.injEq] at hx
  subst hx
  have h4' : y.cells.all (fun c=>c.ok && (y.live || c.k == 0))=true:=h4
  simp only [okAl,Bool.and_eq_true,decide_eq_true_eq] at h
  simp only [List.set_cons_zero,okAl,Bool.and_eq_true,decide_eq_true_eq,h4',h1]
  exact ⟨⟨⟨⟨⟨h.1.1.1.1.1,h.1.1.1.1.2⟩,h2⟩,h3⟩,trivial⟩,h.2⟩
 | a :: l,least,i+1,x,h,hx,h1,h2,h3,h4=>by
  simp only [okAl,Bool.and_eq_true] at h
  simp only [List.set_cons_succ,okAl,Bool.and_eq_true]
  exact ⟨h.1,okAl_put l _ i x h.2 (by simpa using hx) h1 h2 h3 h4⟩
theorem okAl_in {next : Int} : ∀ (l : List Alloc) (least : Int),okAl next least l=true → ∀ (i : Nat) (x : Alloc),l[i]? = some x→1≤x.cells.length∧x.cells.length≤2∧x.cells.all (cellIn x.live)=true
 | [],_,_,i,x,h=>by simp at h
 | a :: l,least,h,i,x,hx=>by
  simp only [okAl,Bool.and_eq_true,decide_eq_true_eq] at h
  cases i with
  | zero =>
   simp only [List.getElem?_cons_zero,Option.some.injEq] at hx
   subst hx
   exact ⟨h.1.1.1.2,h.1.1.2,h.1.2⟩
  | succ i=>exact okAl_in l _ h.2 i x (by simpa using hx)
theorem atNum_put {l : List Alloc} {i : Nat} {x y : Alloc} (hx : l[i]? = some x) (h : y.num=x.num) (n : Int) : atNum (l.set i y) n=atNum l n:=by
 unfold atNum
 have key : ∀ (l : List Alloc) (i : Nat),l[i]? = some x→(l.set i y).findIdx? (fun a=>a.num == n)=l.findIdx? (fun a=>a.num == n):=by
  intro l
  induction l with
  | nil=>intro i h;simp at h
  | cons a l ih =>
   intro i hi
   cases i with
   | zero =>
    simp only [List.getElem?_cons_zero,Option.some.injEq] at hi
    subst hi
    rw [List.set_cons_zero,List.findIdx?_cons,List.findIdx?_cons,h]
   | succ i=>rw [List.set_cons_succ,List.findIdx?_cons,List.findIdx?_cons,ih i (by simpa using hi)]
 exact key l i hx
theorem put_len {x : Alloc} {o : Nat} {l : List Cell} (h : o+l.length≤x.cells.length) : (putCells x o l).cells.length=x.cells.length:=by
 simp only [putCells,List.length_append,List.length_take,List.length_drop]
 omega
theorem put_all {x : Alloc} {o : Nat} {l : List Cell} (hx : x.cells.all (cellIn x.live)=true) (hl : l.all Cell.ok=true) (hv : x.live=true) : (putCells x o l).cells.all (cellIn (putCells x o l).live)=true:=by
 show (x.cells.take o ++ l ++ x.cells.drop (o+l.length)).all (cellIn x.live)=true
 rw [List.all_eq_true] at hx hl ⊢
 intro c hc
 rcases List.mem_append.1 hc with hc | hc
 ·rcases List.mem_append.1 hc with hc | hc
  ·exact hx c (List.mem_of_mem_take hc)
  ·simp [cellIn,hl c hc,hv]
 ·exact hx c (List.mem_of_mem_drop hc)
theorem ok_put {m : Mem} {i o : Nat} {x : Alloc} {l : List Cell} (h : m.ok=true) (hx : m.al[i]? = some x) (hv : x.live=true) (ho : o+l.length≤x.cells.length) (hl : l.all Cell.ok=true) : (⟨m.al.set i (putCells x o l),m.next⟩ : Mem).ok=true:=by
 unfold Mem.ok okM at h ⊢
 simp only [Bool.and_eq_true,decide_eq_true_eq] at h ⊢
 obtain ⟨h1,h2,h3⟩:=okAl_in _ _ h.2 i x hx
 exact ⟨⟨by simpa using h.1.1,h.1.2⟩,okAl_put _ _ i x h.2 hx rfl (by rw [put_len ho];exact h1) (by rw [put_len ho];exact h2) (put_all h3 hl hv)⟩
theorem storeR_err {m : Mem} {p : Ptr} {l : List Cell} {err : Int} (h : (askR m p l.length).2=err) (he : err≠0) : storeR m p l=(Mem.zero,0,err):=by
 subst h
 rw [storeR,if_neg he]
theorem storeR_bad {m : Mem} {p : Ptr} {l : List Cell} (h : (askR m p l.length).2=0) (hl : l.all Cell.ok=false) : storeR m p l=(Mem.zero,0,8):=by
 rw [storeR,if_pos h,hl]
 rfl
theorem storeR_none {m : Mem} {p : Ptr} {l : List Cell} (h : askR m p l.length=(none,0)) (hl : l.all Cell.ok=true) : storeR m p l=(Mem.zero,3,0):=by
 rw [storeR,h,if_pos rfl,if_pos hl]
theorem storeR_dead {m : Mem} {p : Ptr} {l : List Cell} {i : Nat} {x : Alloc} (h : askR m p l.length=(some i,0)) (hl : l.all Cell.ok=true) (hx : m.al[i]? = some x) (hv : x.live=false) : storeR m p l=(Mem.zero,3,0):=by
 have hg : m.al.getD i Alloc.zero=x:=by rw [List.getD_eq_getElem?_getD,hx];rfl
 rw [storeR,h,if_pos rfl,if_pos hl]
 show (if (m.al.getD i Alloc.zero).live=true then _ else _)=_
 rw [hg,hv]
 rfl
theorem storeR_yes {m : Mem} {p : Ptr} {l : List Cell} {i : Nat} {x : Alloc} (h : askR m p l.length=(some i,0)) (hl : l.all Cell.ok=true) (hx : m.al[i]? = some x) (hv : x.live=true) : storeR m p l=(⟨m.al.set i (putCells x p.o.toNat l),m.next⟩,0,0):=by
 have hg : m.al.getD i Alloc.zero=x:=by rw [List.getD_eq_getElem?_getD,hx];rfl
 rw [storeR,h,if_pos rfl,if_pos hl]
 show (if (m.al.getD i Alloc.zero).live=true then ((⟨storeAt m.al i p.o.toNat l,m.next⟩,0,0) : Mem × Int × Int) else _)=_
 rw [hg,hv,if_pos rfl]
 unfold storeAt
 rw [hx]
theorem storeR_cases (m : Mem) (p : Ptr) (l : List Cell) : (∃ e,storeR m p l=(Mem.zero,0,e)∧e≠0)∨(storeR m p l=(Mem.zero,3,0)∧l.all Cell.ok=true∧(askR m p l.length).2=0∧rangeR m p l.length=[]) ∨
  ∃ i x,askR m p l.length=(some i,0)∧m.al[i]? = some x∧x.live=true∧l.all Cell.ok=true∧storeR m p l=(⟨m.al.set i (putCells x p.o.toNat l),m.next⟩,0,0):=by
 obtain ⟨ix,err,hask⟩ : ∃ ix err,askR m p l.length=(ix,err):=⟨_,_,rfl⟩
 by_cases he : err=0
 ·subst he
  cases hl : l.all Cell.ok
  ·exact .inl ⟨8,storeR_bad (by rw [hask]) hl,by decide⟩
  ·cases ix with
   | none=>exact .inr (.inl ⟨storeR_none hask hl,rfl,by rw [hask],rangeR_none hask⟩)
   | some i =>
    obtain ⟨-,-,-,-,-,-,-,x,hx,-,-⟩:=askR_inv hask
    cases hv : x.live
    ·exact .inr (.inl ⟨storeR_dead hask hl hx hv,rfl,by rw [hask],rangeR_dead hask hx hv⟩)
    ·exact .inr (.inr ⟨i,x,hask,hx,hv,rfl,storeR_yes hask hl hx hv⟩)
 ·exact .inl ⟨err,storeR_err (by rw [hask]) he,he⟩
theorem askR_put {m : Mem} {i o : Nat} {x : Alloc} {l : List Cell} (h : m.ok=true) (hx : m.al[i]? = some x) (hv : x.live=true) (ho : o+l.length≤x.cells.length) (hl : l.all Cell.ok=true) (p : Ptr) (n : Int) :
  askR ⟨m.al.set i (putCells x o l),m.next⟩ p n=askR m p n:=by
 unfold askR
 rw [ok_put h hx hv ho hl,h]
 rw [show atNum (⟨m.al.set i (putCells x o l),m.next⟩ : Mem).al p.a=atNum m.al p.a from atNum_put (y:=putCells x o l) hx rfl _]
 cases hj : atNum m.al p.a with
 | none=>rfl
 | some j =>
  have : (((m.al.set i (putCells x o l)).getD j Alloc.zero).cells.length : Int)=((m.al.getD j Alloc.zero).cells.length : Int):=by
   rw [List.getD_eq_getElem?_getD,List.getD_eq_getElem?_getD]
   by_cases e : i=j
   ·subst e
    rw [List.getElem?_set_self (List.getElem?_eq_some_iff.1 hx).1,hx]
    show ((putCells x o l).cells.length : Int)=_
    rw [put_len ho]
    rfl
   ·rw [List.getElem?_set_ne e]
  show (if p.a < 0∨m.next≤p.a∨n < 1∨2 < n then _ else if p.o < 0∨(((m.al.set i (putCells x o l)).getD j Alloc.zero).cells.length : Int) - n < p.o then _ else _)=_
  rw [this]
  rfl
theorem cut_put {x : Alloc} {o : Nat} {l : List Cell} (ho : o+l.length≤x.cells.length) : cutOf (putCells x o l) o l.length=l:=by
 have h1 : (x.cells.take o).length=o:=by rw [List.length_take];omega
 show ((x.cells.take o ++ l ++ x.cells.drop (o+l.length)).drop o).take l.length=l
 rw [List.append_assoc,List.drop_append,List.drop_of_length_le (by omega),h1,Nat.sub_self,List.drop_zero,List.nil_append,List.take_append_of_le_length (Nat.le_refl _),List.take_length]
end Go.Proofs.YtnplphcnagooeaaDoor

/- What the functions of layer 35 on a monitor's memory compute (Load, Store, Retag), and plain laws of it; no program in sight. -/
namespace Go.Proofs.YtnplphcnagooeaaDoor
set_option maxRecDepth 100000
open Go.RowKit
def loadM (m : Mon) (p : Ptr) (n : Int) : Mon × List Cell × Int × Int :=
 if okMon m then
  if (loadR m.mem p n).2.2=0∧(loadR m.mem p n).2.1≠3 then
   match atNum m.mem.al p.a with
   | none=>(Mon.zero,[],3,0)
   | some i =>
    if (use33 (m.stks.getD i Stk.zero) p.o n p.t false m.run).2.1=0 then
     if (loadR m.mem p n).2.1=0 then (⟨m.mem,m.stks.set i (use33 (m.stks.getD i Stk.zero) p.o n p.t false m.run).1,m.run,m.tag,m.call⟩,(loadR m.mem p n).1,0,0)
     else (Mon.zero,[],(loadR m.mem p n).2.1,0)
    else (Mon.zero,[],(use33 (m.stks.getD i Stk.zero) p.o n p.t false m.run).2.1,0)
  else (Mon.zero,[],(loadR m.mem p n).2.1,(loadR m.mem p n).2.2)
 else (Mon.zero,[],0,8)
def storeM (m : Mon) (p : Ptr) (l : List Cell) : Mon × Int × Int :=
 if okMon m then
  if (storeR m.mem p l).2.2=0∧(storeR m.mem p l).2.1=0 then
   match atNum m.mem.al p.a with
   | none=>(Mon.zero,3,0)
   | some i =>
    if (use33 (m.stks.getD i Stk.zero) p.o l.length p.t true m.run).2.1=0 then (⟨(storeR m.mem p l).1,m.stks.set i (use33 (m.stks.getD i Stk.zero) p.o l.length p.t true m.run).1,m.run,m.tag,m.call⟩,0,0)
    else (Mon.zero,(use33 (m.stks.getD i Stk.zero) p.o l.length p.t true m.run).2.1,0)
  else (Mon.zero,(storeR m.mem p l).2.1,(storeR m.mem p l).2.2)
 else (Mon.zero,0,8)
def retagM (m : Mon) (p : Ptr) (n kind call : Int) : Mon × Ptr × Int × Int :=
 if okMon m then
  if kindOk kind=true∧(call=0∨hasR m.run call=true) then
   if (loadR m.mem p n).2.2=0 then
    if m.tag=1000000 then (Mon.zero,Ptr.zero,0,18)
    else if (loadR m.mem p n).2.1=3 then (Mon.zero,Ptr.zero,3,0)
    else match atNum m.mem.al p.a with
     | none=>(Mon.zero,Ptr.zero,3,0)
     | some i =>
      if (tag33 (m.stks.getD i Stk.zero) p.o n kind p.t ⟨0,m.tag,call⟩ m.run).2.2=0∧(tag33 (m.stks.getD i Stk.zero) p.o n kind p.t ⟨0,m.tag,call⟩ m.run).2.1=0 then
       (⟨m.mem,m.stks.set i (tag33 (m.stks.getD i Stk.zero) p.o n kind p.t ⟨0,m.tag,call⟩ m.run).1,m.run,m.tag+1,m.call⟩,⟨p.a,p.o,m.tag⟩,0,0)
      else (Mon.zero,Ptr.zero,(tag33 (m.stks.getD i Stk.zero) p.o n kind p.t ⟨0,m.tag,call⟩ m.run).2.1,(tag33 (m.stks.getD i Stk.zero) p.o n kind p.t ⟨0,m.tag,call⟩ m.run).2.2)
   else (Mon.zero,Ptr.zero,0,(loadR m.mem p n).2.2)
  else (Mon.zero,Ptr.zero,0,2)
 else (Mon.zero,Ptr.zero,0,8)
def whereM (m : Mem) (p : Ptr) (n : Int) : Int × Int × Int :=
 if (askR m p n).2=0 then match (askR m p n).1 with
  | none=>(-1,3,0)
  | some i=>if (m.al.getD i Alloc.zero).live then ((i : Int),0,0) else (-1,3,0)
 else (-1,0,(askR m p n).2)
theorem whereM_some {m : Mem} {p : Ptr} {n : Int} {i : Nat} {a : Alloc} (h : askR m p n=(some i,0)) (ha : m.al[i]? = some a) : whereM m p n=if a.live then ((i : Int),0,0) else (-1,3,0):=by
 have hg : m.al.getD i Alloc.zero=a:=by rw [List.getD_eq_getElem?_getD,ha];rfl
 rw [whereM,h]
 dsimp only
 rw [if_pos rfl,hg]
theorem whereM_none {m : Mem} {p : Ptr} {n : Int} (h : askR m p n=(none,0)) : whereM m p n=(-1,3,0):=by rw [whereM,h];rfl
theorem whereM_err {m : Mem} {p : Ptr} {n : Int} (h : (askR m p n).2≠0) : whereM m p n=(-1,0,(askR m p n).2):=by rw [whereM,if_neg h]
theorem load_ways {m : Mem} {p : Ptr} {n un er : Int} {l : List Cell} (h : loadR m p n=(l,un,er)) : (er≠0∧un=0∧whereM m p n=(-1,0,er))∨(er=0∧un=3∧whereM m p n=(-1,3,0)) ∨
  (er=0∧(un=0∨un=4) ∧ ∃ i a,atNum m.al p.a=some i∧m.al[i]? = some a∧a.live=true∧whereM m p n=((i : Int),0,0)∧askR m p n=(some i,0)):=by
 obtain ⟨ix,e,hask⟩ : ∃ ix e,askR m p n=(ix,e):=⟨_,_,rfl⟩
 by_cases he : e=0
 ·subst he
  have h2 : (askR m p n).2=0:=by rw [hask]
  cases ix with
  | none =>
   rw [loadR_gone h2 (rangeR_none hask)] at h
   cases h
   exact .inr (.inl ⟨rfl,rfl,whereM_none hask⟩)
  | some i =>
   obtain ⟨-,-,-,-,hn1,-,hat,x,hx,ho0,ho⟩:=askR_inv hask
   cases hv : x.live
   ·rw [loadR_gone h2 (rangeR_dead hask hx hv)] at h
    cases h
    exact .inr (.inl ⟨rfl,rfl,by rw [whereM_some hask hx,hv];rfl⟩)
   ·have hne : rangeR m p n≠[]:=by
     rw [rangeR_live hask hx hv]
     intro e
     have:=cutOf_len (x:=x) (o:=p.o.toNat) (n:=n.toNat) (by omega)
     rw [e] at this
     simp at this
     omega
    refine .inr (.inr ?_)
    have hw : whereM m p n=((i : Int),0,0):=by rw [whereM_some hask hx,hv];rfl
    by_cases hz : (rangeR m p n).any (· == Cell.zero)=true
    ·rw [loadR_unset h2 hne hz] at h
     cases h
     exact ⟨rfl,.inr rfl,i,x,hat,hx,hv,hw,hask⟩
    ·rw [loadR_yes h2 hne (Bool.eq_false_iff.2 hz)] at h
     cases h
     exact ⟨rfl,.inl rfl,i,x,hat,hx,hv,hw,hask⟩
 ·have h2 : (askR m p n).2=e:=by rw [hask]
  rw [loadR_err h2 he] at h
  cases h
  refine .inl ⟨he,rfl,?_⟩
  rw [whereM_err (by rw [h2];exact he),h2]
theorem store_ways {m x : Mem} {p : Ptr} {l : List Cell} (h : storeR m p l=(x,0,0)) : ∃ i a,atNum m.al p.a=some i∧m.al[i]? = some a∧a.live=true∧whereM m p l.length=((i : Int),0,0)∧askR m p l.length=(some i,0)∧l.all Cell.ok=true∧x=⟨m.al.set i (putCells a p.o.toNat l),m.next⟩:=by
 rcases storeR_cases m p l with ⟨e,h1,h2⟩ | ⟨h1,-⟩ | ⟨i,a,h1,h2,h3,h4,h5⟩
 ·rw [h1] at h;simp only [Prod.mk.injEq] at h;exact absurd h.2.2 h2
 ·rw [h1] at h;simp at h
 ·rw [h5] at h
  simp only [Prod.mk.injEq,and_true] at h
  exact ⟨i,a,(askR_inv h1).2.2.2.2.2.2.1,h2,h3,by rw [whereM_some h1 h2,h3];rfl,h1,h4,h.symm⟩
theorem loadM_bad {m : Mon} {p : Ptr} {n : Int} (h : okMon m=false) : loadM m p n=(Mon.zero,[],0,8):=by simp [loadM,h]
theorem loadM_err {m : Mon} {p : Ptr} {n un er : Int} {l : List Cell} (h : okMon m=true) (hl : loadR m.mem p n=(l,un,er)) (he : er≠0∨un=3) : loadM m p n=(Mon.zero,[],un,er):=by
 rw [loadM,if_pos h,hl]
 dsimp only
 rw [if_neg (by omega)]
theorem loadM_live {m : Mon} {p : Ptr} {n un why e4 : Int} {l : List Cell} {i : Nat} {st x : Stk} (h : okMon m=true) (hl : loadR m.mem p n=(l,un,0)) (hu : un≠3) (hat : atNum m.mem.al p.a=some i) (hst : m.stks[i]? = some st) (hd : use33 st p.o n p.t false m.run=(x,why,e4)) :
  loadM m p n=if why=0 then if un=0 then (⟨m.mem,m.stks.set i x,m.run,m.tag,m.call⟩,l,0,0) else (Mon.zero,[],un,0) else (Mon.zero,[],why,0):=by
 have hk : m.stks.getD i Stk.zero=st:=by rw [List.getD_eq_getElem?_getD,hst];rfl
 rw [loadM,if_pos h,hl]
 dsimp only
 rw [if_pos ⟨rfl,hu⟩,hat]
 dsimp only
 rw [hk,hd]
theorem storeM_bad {m : Mon} {p : Ptr} {l : List Cell} (h : okMon m=false) : storeM m p l=(Mon.zero,0,8):=by simp [storeM,h]
theorem storeM_err {m : Mon} {p : Ptr} {un er : Int} {l : List Cell} {x : Mem} (h : okMon m=true) (hl : storeR m.mem p l=(x,un,er)) (he : er≠0∨un≠0) : storeM m p l=(Mon.zero,un,er):=by
 rw [storeM,if_pos h,hl]
 dsimp only
 rw [if_neg (by omega)]
theorem storeM_live {m : Mon} {p : Ptr} {why e4 : Int} {l : List Cell} {y : Mem} {i : Nat} {st x : Stk} (h : okMon m=true) (hl : storeR m.mem p l=(y,0,0)) (hat : atNum m.mem.al p.a=some i) (hst : m.stks[i]? = some st) (hd : use33 st p.o l.length p.t true m.run=(x,why,e4)) :
  storeM m p l=if why=0 then (⟨y,m.stks.set i x,m.run,m.tag,m.call⟩,0,0) else (Mon.zero,why,0):=by
 have hk : m.stks.getD i Stk.zero=st:=by rw [List.getD_eq_getElem?_getD,hst];rfl
 rw [storeM,if_pos h,hl]
 dsimp only
 rw [if_pos ⟨rfl,rfl⟩,hat]
 dsimp only
 rw [hk,hd]
theorem retagM_bad {m : Mon} {p : Ptr} {n kind call : Int} (h : okMon m=false) : retagM m p n kind call=(Mon.zero,Ptr.zero,0,8):=by simp [retagM,h]
theorem retagM_arg {m : Mon} {p : Ptr} {n kind call : Int} (h : okMon m=true) (hk : ¬ (kindOk kind=true∧(call=0∨hasR m.run call=true))) : retagM m p n kind call=(Mon.zero,Ptr.zero,0,2):=by rw [retagM,if_pos h,if_neg hk]
theorem retagM_err {m : Mon} {p : Ptr} {n kind call un er : Int} {l : List Cell} (h : okMon m=true) (hk : kindOk kind=true∧(call=0∨hasR m.run call=true)) (hl : loadR m.mem p n=(l,un,er)) (he : er≠0) : retagM m p n kind call=(Mon.zero,Ptr.zero,0,er):=by
 rw [retagM,if_pos h,if_pos hk,hl]
 dsimp only
 rw [if_neg he]
theorem retagM_full {m : Mon} {p : Ptr} {n kind call un : Int} {l : List Cell} (h : okMon m=true) (hk : kindOk kind=true∧(call=0∨hasR m.run call=true)) (hl : loadR m.mem p n=(l,un,0)) (ht : m.tag=1000000) : retagM m p n kind call=(Mon.zero,Ptr.zero,0,18):=by
 rw [retagM,if_pos h,if_pos hk,hl]
 dsimp only
 rw [if_pos rfl,if_pos ht]
theorem retagM_gone {m : Mon} {p : Ptr} {n kind call : Int} {l : List Cell} (h : okMon m=true) (hk : kindOk kind=true∧(call=0∨hasR m.run call=true)) (hl : loadR m.mem p n=(l,3,0)) (ht : m.tag≠1000000) : retagM m p n kind call=(Mon.zero,Ptr.zero,3,0):=by
 rw [retagM,if_pos h,if_pos hk,hl]
 dsimp only
 rw [if_pos rfl,if_neg ht,if_pos rfl]
theorem retagM_live {m : Mon} {p : Ptr} {n kind call un why e4 : Int} {l : List Cell} {i : Nat} {st x : Stk} (h : okMon m=true) (hk : kindOk kind=true∧(call=0∨hasR m.run call=true)) (hl : loadR m.mem p n=(l,un,0)) (ht : m.tag≠1000000) (hu : un≠3) (hat : atNum m.mem.al p.a=some i) (hst : m.stks[i]? = some st)
  (hd : tag33 st p.o n kind p.t ⟨0,m.tag,call⟩ m.run=(x,why,e4)) :
  retagM m p n kind call=if e4=0∧why=0 then (⟨m.mem,m.stks.set i x,m.run,m.tag+1,m.call⟩,⟨p.a,p.o,m.tag⟩,0,0) else (Mon.zero,Ptr.zero,why,e4):=by
 have hs : m.stks.getD i Stk.zero=st:=by rw [List.getD_eq_getElem?_getD,hst];rfl
 rw [retagM,if_pos h,if_pos hk,hl]
 dsimp only
 rw [if_pos rfl,if_neg ht,if_neg hu,hat]
 dsimp only
 rw [hs,hd]
theorem trows_set2 {vs : List Value} {l : List Stk} {i : Nat} {s' : Value} {y : Stk} (hv : vs.length=l.length) (hi : i < l.length) : ((trows krow vs l).set (i * 2) (.int .i64 y.num)).set (i * 2+1) s'=trows krow (vs.set i s') (l.set i y):=by
 unfold trows
 induction l generalizing vs i with
 | nil=>simp at hi
 | cons a l ih =>
  cases vs with
  | nil=>simp at hv
  | cons v vs =>
   cases i with
   | zero=>simp [krow]
   | succ i =>
    have e : (i+1) * 2=i * 2+1+1:=by omega
    have h:=ih (vs:=vs) (i:=i) (by simpa using hv) (by simpa using hi)
    simp only [List.set_cons_succ,List.zip_cons_cons,List.flatMap_cons,krow,List.cons_append,List.nil_append,e] at h ⊢
    rw [h]
theorem OwnK.setS {S T : Nat→Prop} {wT w' : World} {N g cap : Nat} {s' : Value} {vs : List Value} {l : List Stk} {i : Nat} {y : Stk} (h : OwnK wT N (.slice (some ⟨g,0,none⟩) l.length cap) vs l) (hi : i < l.length) (hX : ExtBut T wT w') (hT : ∀ b,N≤b→b≠g→b < wT.heap.size → ¬ T b∧S b) (hg : S g)
  (hO : Own w' N 44 2 (.slice (some ⟨g,0,none⟩) l.length cap) l.length (((trows krow vs l).set (i * 2) (.int .i64 y.num)).set (i * 2+1) s')) (hR : Fq S w' (fun w=>Sts w s' y.cells)) :
  Fq S w' (fun w=>Kts w (.slice (some ⟨g,0,none⟩) l.length cap) (l.set i y)):=by
 rw [trows_set2 h.len hi] at hO
 intro w'' hw
 refine ⟨vs.set i s',All2.iff.2 ⟨by simp [h.len],fun j u z hu hz => ?_⟩,?_⟩
 ·by_cases e : j=i
  ·subst e
   rw [List.getElem?_set_self (by rw [h.len];exact hi)] at hu
   rw [List.getElem?_set_self hi] at hz
   cases hu;cases hz
   exact hR w'' hw
  ·rw [List.getElem?_set_ne (fun e'=>e e'.symm)] at hu hz
   exact ((h.inner j u z hu hz).to (S':=S) hX (fun b h1 hl=>(hT b h1.1 (fun e=>h1.2 (by rw [e];rfl)) hl).1) (fun b h1 hl=>(hT b h1.1 (fun e=>h1.2 (by rw [e];rfl)) hl).2)) w'' hw
 ·rw [List.length_set]
  exact hO.fs w'' fun b e hl=>hw b (by have e' : some g=some b:=e;cases e';exact hg) hl
end Go.Proofs.YtnplphcnagooeaaDoor

/- A region that draws its order, by what each operation leaves, under a relation of one's own between worlds (stores into fresh boxes too). -/
namespace Go.Proofs.YtnplphcnagooeaaDoor
set_option maxRecDepth 100000
open Go
section
variable {P : Program} {ops : Array Oper} {Q : Exit→Act→World→Prop} {md : Region.Mode} {R : World→World→Prop}
structure PrR (R : World→World→Prop) where
 p : Value→World→Prop
 m : ∀ v w w',p v w→R w w'→p v w'
def PrR.eq (R : World→World→Prop) (u : Value) : PrR R:=⟨fun v _=>v=u,fun _ _ _ h _=>h⟩
def PrR.any (R : World→World→Prop) : PrR R:=⟨fun _ _=>True,fun _ _ _ h _=>h⟩
def prR (L : List (PrR R)) (i : Nat) (v : Value) (w : World) : Prop:=match L[i]? with
 | some q=>q.p v w
 | none=>True
theorem prR_ext {L : List (PrR R)} {i : Nat} {v : Value} {w w' : World} (h : prR L i v w) (he : R w w') : prR L i v w':=by
 unfold prR at *
 cases hq : L[i]? with
 | none=>trivial
 | some q=>rw [hq] at h;exact q.m _ _ _ h he
def addrV (o : Oper) (a : Act) : Value:=match o.op with
 | .store _ (.tmp t) _=>a.eval (.tmp t)
 | _=>undef
def slotV (ops : Array Oper) (a : Act) (i : Nat) : Value:=match ops[i]? with
 | some o=>(match o.dst with
  | some d=>a.eval (.tmp d)
  | none=>addrV o a)
 | none=>undef
theorem fm_inj : ∀ (l : List Oper),(l.filterMap (·.dst)).Nodup → ∀ (i j : Nat) (o u : Oper) (d : Nat),l[i]? = some o→l[j]? = some u→o.dst=some d→u.dst=some d→i=j
 | [],_,i,j,o,u,d,hi,_,_,_=>by simp at hi
 | x :: l,hn,i,j,o,u,d,hi,hj,ho,hu=>by
  have htl : (l.filterMap (·.dst)).Nodup:=by
   cases hx : x.dst with
   | none=>rwa [List.filterMap_cons_none hx] at hn
   | some e=>rw [List.filterMap_cons_some hx] at hn;exact (List.nodup_cons.1 hn).2
  cases i with
  | zero =>
   cases j with
   | zero=>rfl
   | succ j =>
    exfalso
    simp at hi;subst hi
    rw [List.filterMap_cons_some ho] at hn
    exact (List.nodup_cons.1 hn).1 (List.mem_filterMap.2 ⟨u,List.mem_of_getElem? (by simpa using hj),hu⟩)
  | succ i =>
   cases j with
   | zero =>
    exfalso
    simp at hj;subst hj
    rw [List.filterMap_cons_some hu] at hn
    exact (List.nodup_cons.1 hn).1 (List.mem_filterMap.2 ⟨o,List.mem_of_getElem? (by simpa using hi),ho⟩)
   | succ j=>exact congrArg (· + 1) (fm_inj l htl i j o u d (by simpa using hi) (by simpa using hj) ho hu)
theorem putAll_fm (vals : Nat→Value) {t : Nat} : ∀ (l : List Oper) (k : Nat) (a : Act) (i : Nat) (o : Oper),(l.filterMap (·.dst)).Nodup→l[i]? = some o→o.dst=some t→t < a.tmps.size→(putAll vals l k a).tmps[t]? = some (vals (k+i))
 | [],_,_,_,_,_,h,_,_=>by simp at h
 | x :: l,k,a,0,o,hn,ho,hd,ht=>by
  simp at ho;subst ho
  rw [List.filterMap_cons_some hd] at hn
  rw [putAll,putAll_ne vals l _ _ (fun y hy e=>(List.nodup_cons.1 hn).1 (List.mem_filterMap.2 ⟨y,hy,e⟩)),hd,put_eq _ _ ht]
  rfl
 | x :: l,k,a,i+1,o,hn,ho,hd,ht=>by
  have htl : (l.filterMap (·.dst)).Nodup:=by
   cases hx : x.dst with
   | none=>rwa [List.filterMap_cons_none hx] at hn
   | some e=>rw [List.filterMap_cons_some hx] at hn;exact (List.nodup_cons.1 hn).2
  rw [putAll,putAll_fm vals l (k+1) _ i o htl (by simpa using ho) hd (by rw [put_size];exact ht),show k+1+i=k+(i+1) by omega]
def pv (o : Oper) (a : Act) (v : Value) : Value:=match o.dst with
 | some _=>v
 | none=>addrV o a
def RR (ops : Array Oper) (R : World→World→Prop) (L : List (PrR R)) (a0 : Act) (w0 : World) (listed : Array Bool) (a : Act) (w : World) : Prop :=
 listed.size=ops.size∧a.defers=a0.defers∧a.tmps.size=a0.tmps.size∧(∀ t,(∀ o ∈ ops.toList,o.dst≠some t)→a.tmps[t]? = a0.tmps[t]?)∧(∀ i,listed.getD i false=true→prR L i (slotV ops a i) w)∧R w0 w∧(∀ (i : Nat) (o : Oper),ops[i]? = some o→listed.getD i false=true → ∀ e ∈ o.after,Region.binds .any e=true→listed.getD e.on false=true)
def regOR (md : Region.Mode) (ops : Array Oper) (n : Nat) : Bool :=
 (ops.toList.all fun o=>match o.dst with | some d=>decide (d < n) | none=>true) && decide ((ops.toList.filterMap (·.dst)).Nodup)
 && ((List.range ops.size).all fun i=>((ops[i]?).map fun o=>o.after.all fun e => !Region.binds md e || decide (e.on < i)).getD true)
 && (ops.toList.all fun o=>match o.op with
  | .store _ (.tmp t) _=>(List.range ops.size).all fun k=>(((ops[k]?).map fun u=>u.dst != some t).getD true) || (o.after.any fun e=>Region.binds md e && e.on == k)
  | _=>true)
def StepR (P : Program) (md : Region.Mode) (ops : Array Oper) (Q : Exit→Act→World→Prop) (R : World→World→Prop) (L : List (PrR R)) (a0 : Act) (w0 : World) (i : Nat) (o : Oper) : Prop :=
 ∀ (a : Act) (w : World),R w0 w→(∀ j,(o.after.any fun e=>Region.binds md e && e.on == j)=true→prR L j (slotV ops a j) w) →
  (∀ t,ops.toList.all (fun o=>o.dst != some t)=true→a.eval (.tmp t)=a0.eval (.tmp t)) →
  (Region.wanted o (yielded ops a.tmps)=true ∧ ∀ K : Act→World→Prop,(∀ v w',prR L i (pv o a v) w'→R w w'→K (a.put o.dst v) w')→o.wp P a w K Q)∨(Region.wanted o (yielded ops a.tmps)=false∧prR L i (pv o a undef) w)
theorem wp_region_rel {id : Nat} {a0 : Act} {w0 : World} (hr : ∀ w,R w w) (ht : ∀ a b c,R a b→R b c→R a c) (L : List (PrR R)) (hm : P.follows .mixedOrders=true) (hok : regOR .any ops a0.tmps.size=true)
  (hs : AllSteps (StepR P .any ops Q R L a0 w0.drew) ops.toList 0)
  (he : ∀ (vals : Nat→Value) (A : Act) (w : World),A=putAll vals ops.toList 0 a0→R w0.drew w→(∀ i,i < ops.size→prR L i (vals i) w)→(∀ i,vals i=slotV ops A i)→Q .normal A w) :
  (Code.region id ops true).wp P Q a0 w0:=by
 unfold regOR at hok
 simp only [Bool.and_eq_true,decide_eq_true_eq] at hok
 obtain ⟨⟨⟨h1,h2⟩,h3⟩,h4⟩:=hok
 have hdst : ∀ (i : Nat) (o : Oper) (d : Nat),ops[i]? = some o→o.dst=some d→d < a0.tmps.size:=by
  intro i o d ho hd
  have hm' : o ∈ ops.toList:=by rw [Array.mem_toList_iff];exact Array.mem_of_getElem? ho
  have:=List.all_eq_true.1 h1 o hm'
  rw [hd] at this
  simpa using this
 have hafter : ∀ (i : Nat) (o : Oper),ops[i]? = some o → ∀ e ∈ o.after,Region.binds .any e=true→e.on < i:=by
  intro i o ho e hea hb
  have hi:=(Array.getElem?_eq_some_iff.1 ho).1
  have:=List.all_eq_true.1 h3 i (List.mem_range.2 hi)
  rw [ho] at this
  simp only [Option.map_some,Option.getD_some,Array.all_eq_true_iff_forall_mem] at this
  have:=this e hea
  simpa [hb] using this
 have hinj : ∀ (i j : Nat) (o u : Oper) (d : Nat),ops[i]? = some o→ops[j]? = some u→o.dst=some d→u.dst=some d→i=j:=fun i j o u d hi hj ho hu =>
  fm_inj ops.toList h2 i j o u d (by rw [Array.getElem?_toList];exact hi) (by rw [Array.getElem?_toList];exact hj) ho hu
 refine wp_region_any hm (wpAny_inv (I:=RR ops R L a0 w0.drew) ?_ ?_ _ _ _ _ (by unfold unl;refine Nat.le_trans (List.length_filter_le _ _) (by simp)) ?_)
 ·intro listed a w i ⟨r1,r2,r3,r4,r5,r6,r7⟩ hi
  obtain ⟨g1,o,ho,g2⟩:=mem_ready.1 hi
  have hst:=AllSteps.get (i:=i) hs (by rw [Array.getElem?_toList];exact ho)
  rw [Nat.zero_add] at hst
  have hput : ∀ v w',prR L i (pv o a v) w'→R w w'→RR ops R L a0 w0.drew (listed.setIfInBounds i true) (a.put o.dst v) w':=by
   intro v w' hv hE
   refine ⟨by simpa using r1,by rw [put_def];exact r2,by rw [put_size];exact r3,fun t ht => ?_,fun j hj => ?_,ht _ _ _ r6 hE,fun j u hu hj e he1 he2 => ?_⟩
   ·rw [put_ne _ _ (ht o (by rw [Array.mem_toList_iff];exact Array.mem_of_getElem? ho))]
    exact r4 t ht
   ·by_cases e : j=i
    ·subst e
     unfold slotV
     unfold pv at hv
     rw [ho]
     cases hd : o.dst with
     | none=>rw [hd] at hv;simp only [hd];exact hv
     | some d =>
      rw [hd] at hv
      simp only [hd]
      show prR L j ((a.put (some d) v).eval (.tmp d)) w'
      rw [eval_tmp,put_eq _ _ (by rw [r3];exact hdst j o d ho hd)]
      exact hv
    ·rw [getD_set_ne false (fun e'=>e e'.symm)] at hj
     have h5:=prR_ext (r5 j hj) hE
     have : slotV ops (a.put o.dst v) j=slotV ops a j:=by
      unfold slotV
      cases hu : ops[j]? with
      | none=>rfl
      | some u =>
       cases hd' : u.dst with
       | none =>
        simp only [hd']
        unfold addrV
        split
        ·rename_i t x hop
         have hne : o.dst≠some t:=by
          intro ho2
          have hmu : u ∈ ops.toList:=by rw [Array.mem_toList_iff];exact Array.mem_of_getElem? hu
          have h6:=List.all_eq_true.1 h4 u hmu
          rw [hop] at h6
          have h7:=List.all_eq_true.1 h6 i (List.mem_range.2 (Array.getElem?_eq_some_iff.1 ho).1)
          rw [ho] at h7
          simp only [Option.map_some,Option.getD_some,Bool.or_eq_true,bne_iff_ne,ne_eq,ho2,not_true_eq_false,false_or] at h7
          obtain ⟨e3,he3,he4⟩:=Array.any_eq_true'.1 h7
          simp only [Bool.and_eq_true,beq_iff_eq] at he4
          have h8:=r7 j u hu hj e3 he3 he4.1
          rw [he4.2] at h8
          have hsz : i < listed.size:=by rw [r1];exact (Array.getElem?_eq_some_iff.1 ho).1
          simp [hsz] at h8 g1
          rw [g1] at h8
          cases h8
         show (a.put o.dst v).eval (.tmp t)=a.eval (.tmp t)
         rw [eval_tmp,eval_tmp,put_ne _ _ hne]
        ·rfl
       | some d' =>
        simp only [hd']
        show (a.put o.dst v).eval (.tmp d')=a.eval (.tmp d')
        rw [eval_tmp,eval_tmp,put_ne _ _ (fun e'=>e (hinj j i u o d' hu ho hd' e'))]
     rw [this]
     exact h5
   ·have hsz : i < listed.size:=by rw [r1];exact (Array.getElem?_eq_some_iff.1 ho).1
    have key : listed.getD e.on false=true:=by
     by_cases e' : j=i
     ·subst e'
      rw [ho] at hu
      cases hu
      exact g2 e he1 he2
     ·rw [getD_set_ne false (fun h=>e' h.symm)] at hj
      exact r7 j u hu hj e he1 he2
    by_cases e2 : e.on=i
    ·rw [e2];simp [hsz]
    ·rw [getD_set_ne false (fun h=>e2 h.symm)]
     exact key
  have hdep:=hst a w r6 (fun j hj=>by
   obtain ⟨e,he1,he2⟩:=Array.any_eq_true'.1 hj
   simp only [Bool.and_eq_true,beq_iff_eq] at he2
   have:=g2 e he1 he2.1
   rw [he2.2] at this
   exact r5 j this) (fun t ht=>by
   have:=r4 t (fun o ho'=>by simpa using List.all_eq_true.1 ht o ho')
   rw [eval_tmp,eval_tmp,this])
  unfold wpOp
  simp only [ho]
  rcases hdep with ⟨hw,h⟩ | ⟨hw,h⟩
  ·rw [if_pos hw]
   exact .inl (h _ hput)
  ·rw [if_neg (by rw [hw];simp)]
   exact hput _ _ h (hr _)
 ·intro listed a w ⟨r1,r2,r3,r4,r5,r6,_r7⟩ hrd
  have hall : ∀ n i,i < n→i < ops.size→listed.getD i false=true:=by
   intro n
   induction n with
   | zero=>intro i h;omega
   | succ n ih =>
    intro i hi his
    cases hli : listed.getD i true
    ·exfalso
     obtain ⟨o,ho⟩ : ∃ o,ops[i]? = some o:=⟨ops[i],by simp [his]⟩
     have : i ∈ Region.ready .any ops listed:=mem_ready.2 ⟨hli,o,ho,fun e he1 he2=>by
      have:=hafter i o ho e he1 he2
      exact ih _ (by omega) (by omega)⟩
     rw [hrd] at this
     cases this
    ·have hsz : i < listed.size:=by rw [r1];exact his
     simpa [hsz] using hli
  have : putAll (fun i=>slotV ops a i) ops.toList 0 a0=a:=by
   have e1 : (putAll (fun i=>slotV ops a i) ops.toList 0 a0).tmps=a.tmps:=by
    apply Array.ext_getElem?
    intro t
    by_cases hx : ∃ o ∈ ops.toList,o.dst=some t
    ·obtain ⟨o,hom,hd⟩:=hx
     obtain ⟨i,hi⟩:=List.mem_iff_getElem?.1 hom
     have ho : ops[i]? = some o:=by rw [← Array.getElem?_toList];exact hi
     have hdn:=hdst i o t ho hd
     rw [putAll_fm _ ops.toList 0 a0 i o h2 hi hd hdn,Nat.zero_add]
     unfold slotV
     rw [ho]
     simp only [hd]
     show some (a.eval (.tmp t))=_
     rw [eval_tmp,Array.getElem?_eq_getElem (by rw [r3];exact hdn)]
     rfl
    ·have hx' : ∀ o ∈ ops.toList,o.dst≠some t:=fun o h1 h2=>hx ⟨o,h1,h2⟩
     rw [putAll_ne _ _ _ _ hx',r4 t hx']
   have e2:=putAll_def (fun i=>slotV ops a i) ops.toList 0 a0
   rw [← r2] at e2
   cases a
   cases hp : putAll (fun i=>_) ops.toList 0 a0
   simp_all
  exact he (fun i=>slotV ops a i) a w this.symm r6 (fun i hi=>r5 i (hall _ i (Nat.lt_succ_self i) hi)) (fun i=>rfl)
 ·refine ⟨by simp,rfl,rfl,fun _ _=>rfl,fun i hi => ?_,hr _,fun i o _ hi => ?_⟩ <;> (exfalso;by_cases h : i < ops.size <;> simp [h] at hi)
end
end Go.Proofs.YtnplphcnagooeaaDoor

/- Worlds that differ in new blocks and in the contents of fresh variables of one type. -/
namespace Go.Proofs.YtnplphcnagooeaaDoor
set_option maxRecDepth 100000
open Go.RowKit
def BoxT (T : TypeId) (n : Nat) (w : World) (b : Nat) : Prop := ∃ vs : Array Value,vs.size=n∧Box w b T vs
structure BxR (N : Nat) (T : TypeId) (n : Nat) (w w' : World) : Prop where
 os : w'.os=w.os
 tape : w'.tape=w.tape
 output : w'.output=w.output
 size : w.heap.size≤w'.heap.size
 block : ∀ b,b < w.heap.size→w'.heap[b]? = w.heap[b]? ∨ (N≤b∧BoxT T n w b∧BoxT T n w' b)
section
variable {N n : Nat} {T : TypeId} {w w' w'' : World}
theorem BxR.refl (w : World) : BxR N T n w w:=⟨rfl,rfl,rfl,Nat.le_refl _,fun _ _ => .inl rfl⟩
theorem BoxT.lt {b : Nat} (h : BoxT T n w b) : b < w.heap.size:=by
 obtain ⟨vs,-,h⟩:=h
 exact h.lt
theorem BxR.boxT {b : Nat} (h : BxR N T n w w') (hb : BoxT T n w b) : BoxT T n w' b:=by
 rcases h.block b hb.lt with h1 | ⟨-,-,h1⟩
 ·obtain ⟨vs,h2,h3⟩:=hb
  exact ⟨vs,h2,h1.trans h3⟩
 ·exact h1
theorem BxR.trans (h : BxR N T n w w') (k : BxR N T n w' w'') : BxR N T n w w'':=by
 refine ⟨k.os.trans h.os,k.tape.trans h.tape,k.output.trans h.output,Nat.le_trans h.size k.size,fun b hb => ?_⟩
 rcases k.block b (Nat.lt_of_lt_of_le hb h.size) with k1 | ⟨k1,k2,k3⟩
 ·rcases h.block b hb with h1 | ⟨h1,h2,h3⟩
  ·exact .inl (k1.trans h1)
  ·refine .inr ⟨h1,h2,?_⟩
   obtain ⟨vs,e1,e2⟩:=h3
   exact ⟨vs,e1,k1.trans e2⟩
 ·rcases h.block b hb with h1 | ⟨h1,h2,h3⟩
  ·refine .inr ⟨k1,?_,k3⟩
   obtain ⟨vs,e1,e2⟩:=k2
   exact ⟨vs,e1,h1.symm.trans e2⟩
  ·exact .inr ⟨h1,h2,k3⟩
theorem BxR.of_ext (h : Ext w w') : BxR N T n w w':=⟨h.os,h.tape,h.output,h.size,fun _ hb => .inl (h.blk hb)⟩
theorem BxR.to_ext (h : BxR N T n w w') (hN : w.heap.size≤N) : Ext w w':=⟨h.os,h.tape,h.output,h.size,fun b hb=>by rcases h.block b hb with h1 | ⟨h1,-,-⟩;exact h1;omega⟩
theorem BxR.set {b : Nat} (hb : BoxT T n w b) (hN : N≤b) (j : Nat) (u : Value) : BxR N T n w (w.setCell ⟨b,j,none⟩ u):=by
 have hE:=ExtBut.setCell w ⟨b,j,none⟩ u
 refine ⟨hE.os,hE.tape,hE.output,hE.size,fun c hc => ?_⟩
 by_cases e : c=b
 ·subst e
  obtain ⟨vs,h1,h2⟩:=hb
  exact .inr ⟨hN,⟨vs,h1,h2⟩,⟨_,by simpa using h1,h2.set j u⟩⟩
 ·exact .inl (hE.block c hc e)
theorem Sl.bxr {k m : Nat} {v : Value} {xs : List Value} (h : Sl w k v m xs) (hx : n < xs.length) (hR : BxR N T n w w') : Sl w' k v m xs:=by
 obtain ⟨h1,a,cap,h2,h3,h4,h5,h6⟩:=h
 obtain ⟨b,off,rfl,hc0⟩:=h6 n _ (List.getElem?_eq_getElem hx)
 have hb:=World.block_lt_of_cell? _ _ hc0
 have hsame : w'.heap[b]? = w.heap[b]? := by
  rcases hR.block b hb with h7 | ⟨-,⟨vs,e1,e2⟩,-⟩
  ·exact h7
  ·exfalso
   rw [e2.cell,Array.getElem?_eq_none (by omega)] at hc0
   cases hc0
 refine ⟨h1,_,cap,h2,h3,h4,h5,fun j u hj => ?_⟩
 obtain ⟨b',off',e,hc⟩:=h6 j u hj
 cases e
 exact ⟨b,off,rfl,by rw [← hc];exact World.cell?_of_block hsame⟩
end
structure BxX (N : Nat) (T : TypeId) (n : Nat) (X : World→Array Value→Prop) (w w' : World) : Prop where
 os : w'.os=w.os
 tape : w'.tape=w.tape
 output : w'.output=w.output
 size : w.heap.size≤w'.heap.size
 block : ∀ b,b < w.heap.size→w'.heap[b]? = w.heap[b]? ∨ (N≤b∧BoxT T n w b ∧ ∃ vs,vs.size=n∧Box w' b T vs∧X w' vs)
section
variable {N n : Nat} {T : TypeId} {X : World→Array Value→Prop} {w w' w'' : World}
theorem BxX.refl (w : World) : BxX N T n X w w:=⟨rfl,rfl,rfl,Nat.le_refl _,fun _ _ => .inl rfl⟩
theorem BxX.rel (h : BxX N T n X w w') : BxR N T n w w':=⟨h.os,h.tape,h.output,h.size,fun b hb=>(h.block b hb).imp id fun ⟨h1,h2,vs,h3,h4,_⟩=>⟨h1,h2,vs,h3,h4⟩⟩
theorem BxX.trans (hX : ∀ w w' vs,X w vs→BxR N T n w w'→X w' vs) (h : BxX N T n X w w') (k : BxX N T n X w' w'') : BxX N T n X w w'':=by
 refine ⟨k.os.trans h.os,k.tape.trans h.tape,k.output.trans h.output,Nat.le_trans h.size k.size,fun b hb => ?_⟩
 rcases k.block b (Nat.lt_of_lt_of_le hb h.size) with k1 | ⟨k1,k2,k3⟩
 ·rcases h.block b hb with h1 | ⟨h1,h2,vs,h3,h4,h5⟩
  ·exact .inl (k1.trans h1)
  ·exact .inr ⟨h1,h2,vs,h3,k1.trans h4,hX _ _ _ h5 k.rel⟩
 ·rcases h.block b hb with h1 | ⟨h1,h2,-⟩
  ·refine .inr ⟨k1,?_,k3⟩
   obtain ⟨vs,e1,e2⟩:=k2
   exact ⟨vs,e1,h1.symm.trans e2⟩
  ·exact .inr ⟨h1,h2,k3⟩
theorem BxX.of_ext (h : Ext w w') : BxX N T n X w w':=⟨h.os,h.tape,h.output,h.size,fun _ hb => .inl (h.blk hb)⟩
theorem BxX.to_ext (h : BxX N T n X w w') (hN : w.heap.size≤N) : Ext w w':=h.rel.to_ext hN
theorem BxX.but {b : Nat} (hE : ExtBut (· = b) w w') (hb : BoxT T n w b) (hN : N≤b) {vs : Array Value} (hs : vs.size=n) (hB : Box w' b T vs) (hX : X w' vs) : BxX N T n X w w' :=
 ⟨hE.os,hE.tape,hE.output,hE.size,fun c hc=>by
  by_cases e : c=b
  ·subst e;exact .inr ⟨hN,hb,vs,hs,hB,hX⟩
  ·exact .inl (hE.block c hc e)⟩
def PrR.up {N n : Nat} {T : TypeId} {X : World→Array Value→Prop} (q : PrR (BxR N T n)) : PrR (BxX N T n X):=⟨q.p,fun v w w' h hR=>q.m v w w' h hR.rel⟩
end
def PrRB (N : Nat) (T : TypeId) (n : Nat) : PrR (BxR N T n):=⟨fun v w => ∃ b,v = .pointer (some ⟨b,0,none⟩)∧N≤b∧BoxT T n w b,fun _ _ _ ⟨b,h1,h2,h3⟩ hR=>⟨b,h1,h2,hR.boxT h3⟩⟩
end Go.Proofs.YtnplphcnagooeaaDoor

/- Rows and tables that a call owns stay so where fresh variables of another type change; append to an empty literal. -/
namespace Go.Proofs.YtnplphcnagooeaaDoor
set_option maxRecDepth 100000
open Go.RowKit
theorem Own.bxr {N M n' : Nat} {T : TypeId} {w w' : World} {B : Nat} {e k n : Nat} {v : Value} {xs : List Value} (h : Own w B e k v n xs) (hne : e≠T) (hR : BxR N T M w w') : Own w' B e k v n xs:=by
 refine ⟨h.1,?_⟩
 rcases h.2 with h2 | ⟨g,cap,cur,rfl,hg,hh,r⟩
 ·exact Or.inl h2
 ·refine Or.inr ⟨g,cap,cur,rfl,hg,?_,r⟩
  rcases hR.block g (Array.getElem?_eq_some_iff.1 hh).1 with h1 | ⟨-,⟨vs,-,h1⟩,-⟩
  ·exact h1.trans hh
  ·exfalso
   have:=hh.symm.trans (show w.heap[g]? = _ from h1)
   simp only [Option.some.injEq,Obj.cells.injEq] at this
   exact hne this.2.1
theorem OwnS.bxr {N M : Nat} {w w' : World} {B : Nat} {v : Value} {vs : List Value} {l : List (List Item)} (h : OwnS w B v vs l) (hR : BxR N 44 M w w') : OwnS w' B v vs l :=
 ⟨Own.bxr (n':=0) h.outer (by decide) hR,All2.iff.2 ⟨(All2.iff.1 h.inner).1,fun i s a hs ha=>Own.bxr (n':=0) ((All2.iff.1 h.inner).2 i s a hs ha) (by decide) hR⟩,h.apart,h.far⟩
theorem OM.bxr {N M : Nat} {T : TypeId} {w w' : World} {B : Nat} {v : Value} {vs : List Value} {l : List Alloc} (h : OM w B v vs l) (h1 : 109≠T) (h2 : 28≠T) (hR : BxR N T M w w') : OM w' B v vs l :=
 ⟨Own.bxr (n':=0) h.outer h1 hR,All2.iff.2 ⟨(All2.iff.1 h.inner).1,fun i s a hs ha=>Own.bxr (n':=0) ((All2.iff.1 h.inner).2 i s a hs ha) h2 hR⟩,h.apart,h.far⟩
end Go.Proofs.YtnplphcnagooeaaDoor
