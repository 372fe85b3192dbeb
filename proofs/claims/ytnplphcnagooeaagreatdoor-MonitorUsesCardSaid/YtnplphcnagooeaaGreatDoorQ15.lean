/- Several texts in one: CelX6, CelX7. -/
import Derived.Test.YtnplphcnagooeaaGreatDoorQ14
import Derived.Deep.RegionHeld3
/- Contract: StoreAll of the reference of layer 27. -/
namespace Go.Proofs.YtnplphcnagooeaaGreatDoor
set_option maxRecDepth 100000
open Go.RowKit
theorem RetMW.none {w w' : World} {why err : Int} (h : Ext w w') : RetMW w Mem.zero why err (.returned (.tuple #[.agg #[.slice none 0 0,.int .i64 0],.int .u8 why,.int .i64 err])) w':=⟨_,rfl,FrM.zero _ _,h⟩
set_option maxHeartbeats 6400000 in
theorem ref27_StoreAll {m : Mem} {l : List Cell} {s u : Value} {w : World} (p : Ptr) (hl : Als w s m.al) (hn : i64B m.next) (hc : Cls w u l) :
  Calls Tryz.prog 46 #[.agg #[s,.int .i64 m.next],p.val,u] w (RetMW w (storeR m p l).1 (storeR m p l).2.1 (storeR m p l).2.2):=by
 obtain ⟨pa,po,pt⟩:=p
 have hE0:=(((Ext.refl w).alloc (.cells #[s,.int .i64 m.next] 24)).alloc (.cells #[.int .i64 pa,.int .i64 po,.int .i64 pt] 30)).alloc (.cells #[.slice none 0 0,.int .i64 0] 24)
 have hC:=Lib.hid (ref27_Asked ⟨pa,po,pt⟩ l.length (hl.ext hE0) hn)
 have hL:=Lib.hid hl
 have hU:=Lib.hid hc
 obtain ⟨a,cp,rfl,hlc,hcm,-⟩:=hl.form
 obtain ⟨ua,uc,rfl,huc,huc2,-⟩:=hc.form
 unfold maxLen at hcm huc2
 have bM:=((Box.new w 24 #[.slice a m.al.length cp,.int .i64 m.next]).ext ((Ext.refl _).alloc (.cells #[.int .i64 pa,.int .i64 po,.int .i64 pt] 30))).ext ((Ext.refl _).alloc (.cells #[.slice none 0 0,.int .i64 0] 24))
 have bP:=(Box.new (w.alloc (.cells #[.slice a m.al.length cp,.int .i64 m.next] 24)) 30 #[.int .i64 pa,.int .i64 po,.int .i64 pt]).ext ((Ext.refl _).alloc (.cells #[.slice none 0 0,.int .i64 0] 24))
 have bR:=Box.new ((w.alloc (.cells #[.slice a m.al.length cp,.int .i64 m.next] 24)).alloc (.cells #[.int .i64 pa,.int .i64 po,.int .i64 pt] 30)) 24 #[.slice none 0 0,.int .i64 0]
 simp only [World.size_alloc] at bP bR
 obtain ⟨ix,err,hask⟩ : ∃ ix err,askR m ⟨pa,po,pt⟩ l.length=(ix,err):=⟨_,_,rfl⟩
 rw [hask] at hC
 dsimp only at hC
 unfold Ptr.val at *
 by_cases he : err=0
 ·subst he
  obtain ⟨ixv,hix⟩ : ∃ z,ixM ix=z:=⟨_,rfl⟩
  rw [hix] at hC
  have hix:=Lib.hid hix
  have hbad : Hid (l.all Cell.ok=false→storeR m ⟨pa,po,pt⟩ l=(Mem.zero,0,8)):=Hid.mk (fun h=>storeR_bad (by rw [hask]) h)
  have hA:=Lib.hid hask
  clear hask hl hc
  go_enter Tryz.func46,Tryz.ntmps46
  go_wp2_with fail
  refine hC.out.mono ?_
  rintro e w1 ⟨rfl,hE1⟩
  have hF1:=hE0.trans hE1
  replace bM:=bM.ext hE1
  replace bP:=bP.ext hE1
  replace bR:=bR.ext hE1
  go_wp2
  go_loopw [11] (fun kv wr => ∃ k : Nat,k≤l.length∧kv = .int .i64 k∧Ext w1 wr∧Hid ((l.take k).all Cell.ok=true)) (fun kv _=>l.length - (intOf kv).toNat)
  case atStart=>exact ⟨0,Nat.zero_le _,rfl,Ext.refl _,by simp [Hid]⟩
  case round =>
   obtain ⟨k,hk,rfl,hE,hN⟩:=hrel
   have hF:=hF1.trans hE
   by_cases hlt : k < l.length
   ·obtain ⟨x,hx⟩ : ∃ x,l[k]? = some x:=⟨l[k],by simp [hlt]⟩
    obtain ⟨b,off,rfl,hbb,c0,c1,c2,c3,c4⟩:=(hU.out.ext hF).cell hx
    have hX:=Lib.hid hx
    clear hx
    have hi0 : (0 : Int)≤(k : Int):=by omega
    have hi1 : (k : Int) < (l.length : Int):=by omega
    have hCe:=Lib.hid (ref26_Cell x)
    unfold Cell.val at hCe
    cases hok : x.ok
    ·have hok':=Lib.hid hok
     have hres:=Lib.hid (hbad.out (all_miss' hX.out hok))
     have r0 : wr.cell? ⟨w.heap.size+1+1,0,none⟩=some (.slice none 0 0):=(bR.ext hE).cell 0
     have r1 : wr.cell? ⟨w.heap.size+1+1,1,none⟩=some (.int .i64 0):=(bR.ext hE).cell 1
     have bRr:=bR.ext hE
     clear hok
     go_wp2_with fail
     refine (hCe.out _).mono ?_
     rintro e w2 ⟨rfl,hE2⟩
     rw [hok'.out]
     have bR2:=bRr.ext hE2
     have r0 : w2.cell? ⟨w.heap.size+1+1,0,none⟩=some (.slice none 0 0):=bR2.cell 0
     have r1 : w2.cell? ⟨w.heap.size+1+1,1,none⟩=some (.int .i64 0):=bR2.cell 1
     have f0:=bR2.frozen 0
     have f1:=bR2.frozen 1
     have hF2:=hF.trans hE2
     clear bM bP bR bRr bR2
     go_wp2
     rw [hres.out]
     refine bodyPost_ret (v := .tuple #[.agg #[.slice none 0 0,.int .i64 0],.int .u8 0,.int .i64 8]) (by simp [results,Tryz.f46,go_sem,r0,r1]) rfl (RetMW.none ((hF2.setCell (by simp;omega) _).setCell (by simp;omega) _))
    ·have hok':=Lib.hid hok
     have hN2:=Lib.hid (all_take_succ' hN.out hX.out hok)
     clear hok
     go_wp2_with fail
     refine (hCe.out _).mono ?_
     rintro e w2 ⟨rfl,hE2⟩
     rw [hok'.out]
     go_wp2
     go_roundw
     case rel=>exact ⟨k+1,by omega,by go_num,hE.trans hE2,hN2.out⟩
     case measure=>simp [intOf];omega
   ·have hkl : k=l.length:=by omega
    subst hkl
    obtain ⟨wt,rfl⟩ : ∃ wt : World,wt=wr:=⟨_,rfl⟩
    have hall:=hN.out
    rw [List.take_length] at hall
    replace bM:=bM.ext hE
    replace bP:=bP.ext hE
    replace bR:=bR.ext hE
    have hAsk:=hA.out
    clear hbad hN
    cases ix with
    | none =>
     have hres:=Lib.hid (storeR_none hAsk hall)
     have hix':=hix.out
     rw [show ixM none = -1 from rfl] at hix'
     subst hix'
     have r0 : wt.cell? ⟨w.heap.size+1+1,0,none⟩=some (.slice none 0 0):=bR.cell 0
     have r1 : wt.cell? ⟨w.heap.size+1+1,1,none⟩=some (.int .i64 0):=bR.cell 1
     have f0:=bR.frozen 0
     have f1:=bR.frozen 1
     clear bM bP bR hall hAsk
     go_wp2
     rw [hres.out]
     refine bodyPost_ret (v := .tuple #[.agg #[.slice none 0 0,.int .i64 0],.int .u8 3,.int .i64 0]) (by simp [results,Tryz.f46,go_sem,r0,r1]) rfl (RetMW.none ((hF.setCell (by simp;omega) _).setCell (by simp;omega) _))
    | some i =>
     have hix':=hix.out
     rw [show ixM (some i)=(i : Int) from rfl] at hix'
     subst hix'
     obtain ⟨-,hmok,-,-,hn1,hn2,-,x,hx,ho1,ho2⟩:=askR_inv hAsk
     dsimp only at ho1 ho2
     have hil : i < m.al.length:=(List.getElem?_eq_some_iff.1 hx).1
     have hi2 : decide ((i : Int) < 0)=false:=decide_eq_false (by omega)
     have hi0 : (0 : Int)≤(i : Int):=by omega
     have hi1 : (i : Int) < (m.al.length : Int):=by omega
     obtain ⟨b,off,sv,rfl,hbb,d0,d1,d2,hcl⟩:=hL.out.cell hx
     have e1:=hF.cell d1
     have m0 : wt.cell? ⟨w.heap.size,0,none⟩=some (.slice (some ⟨b,off,none⟩) m.al.length cp):=bM.cell 0
     have m1 : wt.cell? ⟨w.heap.size,1,none⟩=some (.int .i64 m.next):=bM.cell 1
     clear d0 d1 d2 hcl
     cases hlv : x.live
     ·have hres:=Lib.hid (storeR_dead hAsk hall hx hlv)
      rw [hlv] at e1
      have r0 : wt.cell? ⟨w.heap.size+1+1,0,none⟩=some (.slice none 0 0):=bR.cell 0
      have r1 : wt.cell? ⟨w.heap.size+1+1,1,none⟩=some (.int .i64 0):=bR.cell 1
      have f0:=bR.frozen 0
      have f1:=bR.frozen 1
      clear bM bP bR hall hAsk hx hlv hmok
      go_wp2
      rw [hres.out]
      refine bodyPost_ret (v := .tuple #[.agg #[.slice none 0 0,.int .i64 0],.int .u8 3,.int .i64 0]) (by simp [results,Tryz.f46,go_sem,r0,r1]) rfl (RetMW.none ((hF.setCell (by simp;omega) _).setCell (by simp;omega) _))
     ·have hres:=Lib.hid (storeR_yes hAsk hall hx hlv)
      rw [hlv] at e1
      have hsm:=small_of_ok hmok
      obtain ⟨o,rfl⟩ : ∃ o : Nat,po=(o : Int):=⟨po.toNat,by omega⟩
      have ho3 : o+l.length≤x.cells.length:=by omega
      have hxs : x.cells.length≤1000000:=hsm.2 x (List.mem_of_getElem? hx)
      have hxl : 0 < x.cells.length:=by omega
      rw [show (⟨pa,(o : Int),pt⟩ : Ptr).o.toNat=o from Int.toNat_natCast o] at hres
      have hX:=Lib.hid hx
      have hl2 : l.length≤2:=by omega
      clear hall hAsk hx hlv hmok ho1 ho2 hn1 hn2
      go_wp2_with fail
      refine (ref26_Twin (hL.out.ext hF) hsm).mono ?_
      rintro e w3 ⟨v,vs,rfl,hOM,hE3⟩
      have hF3:=hF.trans hE3
      have hv:=hOM.outer.sl.slice_form
      obtain ⟨a2,cp2,rfl,hlc2,hcm2,-⟩:=hv
      unfold maxLen at hcm2
      obtain ⟨g,sv',rfl,hg1,hg2,hvi,hown,⟨f0,f1,f2⟩,hfr,hsb⟩:=OM.cell hOM hX.out
      have hown' : Own w3 wt.heap.size 78 5 sv' x.cells.length (x.cells.flatMap Cell.row):=hown
      obtain ⟨gi,icp,rfl,hic1,hic2,hgi1,hgi2⟩:=hown'.form hxl
      unfold maxLen at hic2
      have hggi : gi≠g:=(hsb gi rfl).2.2
      replace bM:=bM.ext hE3
      replace bP:=bP.ext hE3
      replace bR:=bR.ext hE3
      have hb1:=bR.lt
      have hwr : w.heap.size+1+1 < wt.heap.size:=by
       have h1:=World.block_lt_of_cell? _ _ m0
       have h2:=hF.size
       have h3:=hE.size
       have h4:=hE1.size
       simp only [World.size_alloc] at h4
       omega
      have hOMh:=Lib.hid (And.intro hOM (And.intro hown' hvi))
      have p1 : w3.cell? ⟨w.heap.size+1,1,none⟩=some (.int .i64 (o : Int)):=bP.cell 1
      clear m0 m1 e1 hown hown' hfr hsb hOM
      go_wp2
      have hE4 : Ext w3 (w3.alloc (.cells #[.slice (some ⟨g,0,none⟩) m.al.length cp2,.int .i64 m.next] 24)):=(Ext.refl w3).alloc _
      have bO:=Box.new w3 24 #[.slice (some ⟨g,0,none⟩) m.al.length cp2,.int .i64 m.next]
      obtain ⟨w4,hw4⟩ : ∃ w4,w3.alloc (.cells #[.slice (some ⟨g,0,none⟩) m.al.length cp2,.int .i64 m.next] 24)=w4:=⟨_,rfl⟩
      rw [hw4] at hE4 bO ⊢
      clear hw4
      have hOM4:=Lib.hid (And.intro (OM.ext hOMh.out.1 hE4) (And.intro (hOMh.out.2.1.ext hE4) hOMh.out.2.2))
      have g2:=hE4.cell f2
      replace bP:=bP.ext hE4
      replace bR:=bR.ext hE4
      have hF4:=hF3.trans hE4
      clear f0 f1 f2 p1 hOMh
      go_loopw [13] (fun kv wr => ∃ k : Nat,k≤l.length∧kv = .int .i64 k∧ExtBut (fun b=>b=gi) w4 wr∧Own wr wt.heap.size 78 5 (.slice (some ⟨gi,0,none⟩) x.cells.length icp) x.cells.length ((putCells x o (l.take k)).cells.flatMap Cell.row)) (fun kv _=>l.length - (intOf kv).toNat)
      case atStart=>exact ⟨0,Nat.zero_le _,rfl,ExtBut.refl _ _,by rw [List.take_zero,put_none];exact hOM4.out.2.1⟩
      case round =>
       obtain ⟨k,hk,rfl,hX4,hO⟩:=hrel
       have hE5 : Ext w wr:=ExtBut.ext hF4 hX4 (fun y h=>by omega)
       have o0 : wr.cell? ⟨w3.heap.size,0,none⟩=some (.slice (some ⟨g,0,none⟩) m.al.length cp2):=(bO.but hX4 (by omega)).cell 0
       have o1 : wr.cell? ⟨w3.heap.size,1,none⟩=some (.int .i64 m.next):=(bO.but hX4 (by omega)).cell 1
       have p1 : wr.cell? ⟨w.heap.size+1,1,none⟩=some (.int .i64 (o : Int)):=(bP.but hX4 (by omega)).cell 1
       have q2:=hX4.cell g2 (fun h=>hggi h.symm)
       by_cases hlt : k < l.length
       ·obtain ⟨y,hy⟩ : ∃ y,l[k]? = some y:=⟨l[k],by simp [hlt]⟩
        obtain ⟨b2,off2,rfl,hbb2,c0,c1,c2,c3,c4⟩:=(hU.out.ext hE5).cell hy
        have hY:=Lib.hid hy
        have hlen : (putCells x o (l.take k)).cells.length=x.cells.length:=put_len (by rw [List.length_take];omega)
        obtain ⟨z,hz⟩ : ∃ z,(putCells x o (l.take k)).cells[o+k]? = some z:=⟨_,List.getElem?_eq_getElem (by omega)⟩
        have t:=fun j (hj : j < 5)=>(hO.cellAt ((o+k) * 5+j) (by omega)).trans (rows_get Cell.row Cell.row_len _ (o+k) j z hz hj)
        have t0 : wr.cell? ⟨gi,(o+k) * 5,none⟩=some (.int .u8 z.k):=t 0 (by omega)
        have t1 : wr.cell? ⟨gi,(o+k) * 5+1,none⟩=some (.int .i64 z.n):=t 1 (by omega)
        have t2 : wr.cell? ⟨gi,(o+k) * 5+2,none⟩=some (.int .i64 z.a):=t 2 (by omega)
        have t3 : wr.cell? ⟨gi,(o+k) * 5+3,none⟩=some (.int .i64 z.o):=t 3 (by omega)
        have t4 : wr.cell? ⟨gi,(o+k) * 5+4,none⟩=some (.int .i64 z.t):=t 4 (by omega)
        have r0:=hO.frozen ((o+k) * 5)
        have r1:=hO.frozen ((o+k) * 5+1)
        have r2:=hO.frozen ((o+k) * 5+2)
        have r3:=hO.frozen ((o+k) * 5+3)
        have r4:=hO.frozen ((o+k) * 5+4)
        have hO':=Lib.hid hO
        have hZ:=Lib.hid hz
        have hlen':=Lib.hid hlen
        have hj0 : (0 : Int)≤(o : Int)+(k : Int):=by omega
        have hj1 : (o : Int)+(k : Int) < (x.cells.length : Int):=by omega
        have hj2 : ((o : Int)+(k : Int)).toNat=o+k:=by omega
        have hj3 : IntKind.i64.wrap ((o : Int)+(k : Int))=(o : Int)+(k : Int):=IntWalk.i64_in _ (by omega)
        have hk0 : (0 : Int)≤(k : Int):=by omega
        have hk1 : (k : Int) < (l.length : Int):=by omega
        clear hy hO hz t hlen bM bP bR bO
        go_wp2
        go_region
        have hS5:=((((hO'.out.set ((o+k) * 5) (.int .u8 y.k)).set ((o+k) * 5+1) (.int .i64 y.n)).set ((o+k) * 5+2) (.int .i64 y.a)).set ((o+k) * 5+3) (.int .i64 y.o)).set ((o+k) * 5+4) (.int .i64 y.t)
        rw [rows_set5 _ (o+k) z y hZ.out,put_step ho3 hY.out] at hS5
        have hX5:=((((hX4.set' (p:=⟨gi,(o+k) * 5,none⟩) rfl (.int .u8 y.k)).set' (p:=⟨gi,(o+k) * 5+1,none⟩) rfl (.int .i64 y.n)).set' (p:=⟨gi,(o+k) * 5+2,none⟩) rfl (.int .i64 y.a)).set' (p:=⟨gi,(o+k) * 5+3,none⟩) rfl (.int .i64 y.o)).set' (p:=⟨gi,(o+k) * 5+4,none⟩) rfl (.int .i64 y.t)
        have hS:=Lib.hid (And.intro hX5 hS5)
        clear hS5 hX5
        go_wp2
        go_roundw
        case rel=>exact ⟨k+1,by omega,by go_num,hS.out.1.drewN 1,hS.out.2⟩
        case measure=>simp [intOf];omega
       ·have hkl : k=l.length:=by omega
        subst hkl
        rw [List.take_length] at hO
        have hO':=Lib.hid hO
        have bR5:=bR.but hX4 (by omega)
        have r0 : wr.cell? ⟨w.heap.size+1+1,0,none⟩=some (.slice none 0 0):=bR5.cell 0
        have r1 : wr.cell? ⟨w.heap.size+1+1,1,none⟩=some (.int .i64 0):=bR5.cell 1
        have fr0:=bR5.frozen 0
        have fr1:=bR5.frozen 1
        clear bM bP bR bO bR5 hO p1 q2
        go_wp2
        have hOM5:=OM.put_inner hOM4.out.1 hX.out hOM4.out.2.2 rfl hX4 (show OwnC wr wt.heap.size _ (putCells x o l) from by unfold OwnC;rw [put_len ho3];exact hO'.out) rfl rfl
        have hY:=((ExtBut.setCell wr ⟨w.heap.size+1+1,0,none⟩ (.slice (some ⟨g,0,none⟩) m.al.length cp2)).mono (S':=fun b=>b=w.heap.size+1+1) (fun x _ h=>h)).trans ((ExtBut.setCell _ ⟨w.heap.size+1+1,1,none⟩ (.int .i64 m.next)).mono (S':=fun b=>b=w.heap.size+1+1) (fun x _ h=>h))
        have hOM6:=OM.but hOM5 hY (fun g e h=>by have:=(hOM5.outer.lt e).1;omega) (fun s hs g e h=>by have:=(OM.inner_lt hOM5 s hs g e).1;omega)
        rw [hres.out]
        refine bodyPost_ret (v := .tuple #[.agg #[.slice (some ⟨g,0,none⟩) m.al.length cp2,.int .i64 m.next],.int .u8 0,.int .i64 0]) (by simp [results,Tryz.f46,go_sem,r0,r1]) rfl ⟨_,rfl,?_,ExtBut.ext hE5 hY (fun y h=>by omega)⟩
        exact FrM.of_OM (by simpa using hOM6) (by omega)
 ·have hres:=Lib.hid (storeR_err (by rw [hask]) he)
  have q : (err != 0)=true:=by simp [he]
  have q' : (err == 0)=false:=by simp [he]
  clear hask hl hc he
  obtain ⟨ixv,hixv⟩ : ∃ z,ixM ix=z:=⟨_,rfl⟩
  rw [hixv] at hC
  clear hixv
  go_enter Tryz.func46,Tryz.ntmps46
  go_wp2_with fail
  refine hC.out.mono ?_
  rintro e w1 ⟨rfl,hE1⟩
  have bR1:=bR.ext hE1
  have r0 : w1.cell? ⟨w.heap.size+1+1,0,none⟩=some (.slice none 0 0):=bR1.cell 0
  have r1 : w1.cell? ⟨w.heap.size+1+1,1,none⟩=some (.int .i64 0):=bR1.cell 1
  have f0:=bR1.frozen 0
  have f1:=bR1.frozen 1
  have hF1:=hE0.trans hE1
  clear bM bP bR bR1
  go_wp2
  rw [hres.out]
  refine bodyPost_ret (v := .tuple #[.agg #[.slice none 0 0,.int .i64 0],.int .u8 0,.int .i64 err]) (by simp [results,Tryz.f46,go_sem,r0,r1]) rfl (RetMW.none ((hF1.setCell (by simp;omega) _).setCell (by simp;omega) _))
end Go.Proofs.YtnplphcnagooeaaGreatDoor

/- Contracts: StoreAll of cells; Store of both. (printed by gen/store27.py) -/
namespace Go.Proofs.YtnplphcnagooeaaGreatDoor
set_option maxRecDepth 100000
open Go.RowKit
theorem cellErr_ok {c : Cell} (h : c.ok=true) : cellErr c=0:=by simp [cellErr,h]
theorem cellErr_bad {c : Cell} (h : c.ok=false) : cellErr c=8:=by simp [cellErr,h]
set_option maxHeartbeats 6400000 in
theorem cells_StoreAll {m : Mem} {l : List Cell} {s u : Value} {w : World} (p : Ptr) (hl : Als w s m.al) (hn : i64B m.next) (hc : Cls w u l) :
  Calls Tryz.prog 21 #[.agg #[s,.int .i64 m.next],p.val,u] w (RetMW w (storeR m p l).1 (storeR m p l).2.1 (storeR m p l).2.2):=by
 have hL:=Lib.hid hl
 obtain ⟨vs0,hin,hout⟩:=hl
 obtain ⟨pa,po,pt⟩:=p
 have hE0:=(((Ext.refl w).alloc (.cells #[s,.int .i64 m.next] 24)).alloc (.cells #[.int .i64 pa,.int .i64 po,.int .i64 pt] 30)).alloc (.cells #[.slice none 0 0,.int .i64 0] 24)
 have hC:=Lib.hid (cells_find ⟨pa,po,pt⟩ l.length (hin.mono fun _ _ h=>Cls.ext h hE0) (hout.ext hE0) hn)
 have hU:=Lib.hid hc
 obtain ⟨a,cp,rfl,hlc,hcm,-⟩:=hout.slice_form
 obtain ⟨ua,uc,rfl,huc,huc2,-⟩:=hc.form
 unfold maxLen at hcm huc2
 have bM:=((Box.new w 24 #[.slice a m.al.length cp,.int .i64 m.next]).ext ((Ext.refl _).alloc (.cells #[.int .i64 pa,.int .i64 po,.int .i64 pt] 30))).ext ((Ext.refl _).alloc (.cells #[.slice none 0 0,.int .i64 0] 24))
 have bP:=(Box.new (w.alloc (.cells #[.slice a m.al.length cp,.int .i64 m.next] 24)) 30 #[.int .i64 pa,.int .i64 po,.int .i64 pt]).ext ((Ext.refl _).alloc (.cells #[.slice none 0 0,.int .i64 0] 24))
 have bR:=Box.new ((w.alloc (.cells #[.slice a m.al.length cp,.int .i64 m.next] 24)).alloc (.cells #[.int .i64 pa,.int .i64 po,.int .i64 pt] 30)) 24 #[.slice none 0 0,.int .i64 0]
 simp only [World.size_alloc] at bP bR
 obtain ⟨fv,hfv⟩ : ∃ fv,findV m vs0 ⟨pa,po,pt⟩ l.length=fv:=⟨_,rfl⟩
 rw [hfv] at hC
 obtain ⟨fa,fn,fc,rfl⟩ : ∃ fa fn fc,fv = .slice fa fn fc:=by
  have h:=findV_read ⟨pa,po,pt⟩ (l.length : Int) hin
  rw [hfv] at h
  obtain ⟨fa,fc,e,-⟩:=h.form
  exact ⟨fa,_,fc,e⟩
 obtain ⟨ix,err,hask⟩ : ∃ ix err,askR m ⟨pa,po,pt⟩ l.length=(ix,err):=⟨_,_,rfl⟩
 rw [hask] at hC
 dsimp only at hC
 unfold Ptr.val at *
 clear hfv hin hout
 by_cases he : err=0
 ·subst he
  have hbad : Hid (l.all Cell.ok=false→storeR m ⟨pa,po,pt⟩ l=(Mem.zero,0,8)):=Hid.mk (fun h=>storeR_bad (by rw [hask]) h)
  have hA:=Lib.hid hask
  have hmok : Hid (m.ok=true):=Hid.mk (by
   cases h : m.ok with
   | true=>rfl
   | false=>rw [askR_bad h] at hask;cases hask)
  clear hask hc
  go_enter Tryz.func21,Tryz.ntmps21
  go_wp2_with fail
  refine hC.out.mono ?_
  rintro e w1 ⟨rfl,hE1⟩
  have hF1:=hE0.trans hE1
  replace bM:=bM.ext hE1
  replace bP:=bP.ext hE1
  replace bR:=bR.ext hE1
  go_wp2
  go_loopw [33] (fun kv wr => ∃ k : Nat,k≤l.length∧kv = .int .i64 k∧Ext w1 wr∧Hid ((l.take k).all Cell.ok=true)) (fun kv _=>l.length - (intOf kv).toNat)
  case atStart=>exact ⟨0,Nat.zero_le _,rfl,Ext.refl _,by simp [Hid]⟩
  case round =>
   obtain ⟨k,hk,rfl,hE,hN⟩:=hrel
   have hF:=hF1.trans hE
   replace bM:=bM.ext hE
   replace bP:=bP.ext hE
   replace bR:=bR.ext hE
   by_cases hlt : k < l.length
   ·obtain ⟨x,hx⟩ : ∃ x,l[k]? = some x:=⟨l[k],by simp [hlt]⟩
    obtain ⟨b,off,rfl,hbb,c0,c1,c2,c3,c4⟩:=(hU.out.ext hF).cell hx
    have hX:=Lib.hid hx
    clear hx
    have hi0 : (0 : Int)≤(k : Int):=by omega
    have hi1 : (k : Int) < (l.length : Int):=by omega
    have hCe:=Lib.hid (allocs_CheckCell x)
    unfold Cell.val at hCe
    have hEb : Ext wr (wr.alloc (.cells #[.int .u8 x.k,.int .i64 x.n,.int .i64 x.a,.int .i64 x.o,.int .i64 x.t] 78)):=(Ext.refl wr).alloc _
    cases hok : x.ok
    ·have hce:=Lib.hid (cellErr_bad hok)
     have hres:=Lib.hid (hbad.out (all_miss' hX.out hok))
     clear hok
     go_wp2_with fail
     refine (hCe.out _).mono ?_
     rintro e w2 ⟨rfl,hE2⟩
     rw [hce.out]
     replace bM:=(bM.ext hEb).ext hE2
     replace bP:=(bP.ext hEb).ext hE2
     replace bR:=(bR.ext hEb).ext hE2
     have hF2:=(hF.trans hEb).trans hE2
     have zr0 : w2.cell? ⟨w.heap.size+1+1,0,none⟩=some (.slice none 0 0):=bR.cell 0
     have zr1 : w2.cell? ⟨w.heap.size+1+1,1,none⟩=some (.int .i64 0):=bR.cell 1
     have zf0:=bR.frozen 0
     have zf1:=bR.frozen 1
     clear bM bP bR
     go_wp2
     rw [hres.out]
     refine bodyPost_ret (v := .tuple #[.agg #[.slice none 0 0,.int .i64 0],.int .u8 0,.int .i64 8]) (by simp [results,Tryz.f21,go_sem,zr0,zr1]) rfl (RetMW.none ((hF2.setCell (by simp;omega) _).setCell (by simp;omega) _))
    ·have hce:=Lib.hid (cellErr_ok hok)
     have hN2:=Lib.hid (all_take_succ' hN.out hX.out hok)
     clear hok
     go_wp2_with fail
     refine (hCe.out _).mono ?_
     rintro e w2 ⟨rfl,hE2⟩
     rw [hce.out]
     go_wp2
     go_roundw
     case rel=>exact ⟨k+1,by omega,by go_num,(hE.trans hEb).trans hE2,hN2.out⟩
     case measure=>simp [intOf];omega
   ·have hkl : k=l.length:=by omega
    subst hkl
    obtain ⟨wt,rfl⟩ : ∃ wt : World,wt=wr:=⟨_,rfl⟩
    have hall:=hN.out
    rw [List.take_length] at hall
    have hall:=Lib.hid hall
    have hsm:=small_of_ok hmok.out
    have hs1:=hsm.1
    have m0 : wt.cell? ⟨w.heap.size,0,none⟩=some (.slice a m.al.length cp):=bM.cell 0
    have m1 : wt.cell? ⟨w.heap.size,1,none⟩=some (.int .i64 m.next):=bM.cell 1
    have hbl:=bR.lt
    have hb0 : w.heap.size < wt.heap.size:=by omega
    clear hbad hN
    go_wp2
    have hE4 : Ext wt (wt.alloc (.cells #[.slice none 0 0,.int .i64 m.next] 24)):=(Ext.refl wt).alloc _
    have bO:=Box.new wt 24 #[.slice none 0 0,.int .i64 m.next]
    have hsz5 : (wt.alloc (.cells #[.slice none 0 0,.int .i64 m.next] 24)).heap.size=wt.heap.size+1:=by simp
    obtain ⟨w5,hw5⟩ : ∃ w5,wt.alloc (.cells #[.slice none 0 0,.int .i64 m.next] 24)=w5:=⟨_,rfl⟩
    rw [hw5] at hE4 bO hsz5 ⊢
    clear hw5
    have hsz5:=Lib.hid hsz5
    have hF5:=hF.trans hE4
    replace bM:=bM.ext hE4
    replace bP:=bP.ext hE4
    replace bR:=bR.ext hE4
    clear m0 m1
    obtain ⟨ci,cz,hci,hcz,hci3,hcz3,hcby⟩:=Cell.infoE
    obtain ⟨ai,az,hai,haz,hai3,haz3,haby⟩:=Alloc.infoE
    have hci:=Lib.hid hci;have hcz:=Lib.hid hcz;have hci3:=Lib.hid hci3;have hcz3:=Lib.hid hcz3;have hcby:=Lib.hid hcby
    have hai:=Lib.hid hai;have haz:=Lib.hid haz;have hai3:=Lib.hid hai3;have haz3:=Lib.hid haz3;have haby:=Lib.hid haby
    have hsmx:=Lib.hid hsm.2
    clear hsm
    go_loopw [50] (fun iv wr => ∃ (k : Nat) (v : Value) (vs : List Value),k≤m.al.length∧iv = .int .i64 k∧Box wr wt.heap.size 24 #[v,.int .i64 m.next]∧OM wr w5.heap.size v vs (m.al.take k)∧ExtBut (· = wt.heap.size) w5 wr) (fun iv _=>m.al.length - (intOf iv).toNat)
    case atStart=>exact ⟨0,_,[],Nat.zero_le _,rfl,bO,OTb.nil _ _,ExtBut.refl _ _⟩
    case round =>
     obtain ⟨k,v,vs,hk,rfl,bO,hT,hX⟩:=hrel
     have bM:=bM.but hX (by omega)
     have bP:=bP.but hX (by omega)
     have bR:=bR.but hX (by omega)
     have hFq : Ext w wr:=ExtBut.ext hF5 hX (fun x h=>by have:=hF.size;omega)
     have hlk : (m.al.take k).length=k:=by rw [List.length_take];omega
     have hOv:=hT.outer
     rw [hlk] at hOv
     obtain ⟨av,cv,rfl,hcv1,hcv2,-⟩:=hOv.sl.slice_form
     unfold maxLen at hcv2
     have o0 : wr.cell? ⟨wt.heap.size,0,none⟩=some (.slice av k cv):=bO.cell 0
     have o1 : wr.cell? ⟨wt.heap.size,1,none⟩=some (.int .i64 m.next):=bO.cell 1
     have hBl:=bO.lt
     by_cases hlt : k < m.al.length
     ·obtain ⟨x,hx⟩ : ∃ x,m.al[k]? = some x:=⟨m.al[k],by simp [hlt]⟩
      obtain ⟨b,off,sv,rfl,hbb,d0,d1,d2,hcl⟩:=(hL.out.ext hFq).cell hx
      obtain ⟨ca,ccp,rfl,hclc,hccm,-⟩:=hcl.form
      have hxs : x.cells.length≤1000000:=hsmx.out x (List.mem_of_getElem? hx)
      have hE3:=(Ext.refl wr).alloc (.cells #[.int .i64 x.num,.bool x.live,.slice ca x.cells.length ccp] 74)
      have bX:=Box.new wr 74 #[.int .i64 x.num,.bool x.live,.slice ca x.cells.length ccp]
      have hA:=Lib.hid (And.intro (hcl.ext hE3) (And.intro bX (And.intro trivial (And.intro hx (And.intro hT (And.intro hX (And.intro hOv (And.intro bO hlk))))))))
      clear hcl bX hx hT hX hOv bO hlk bM bR bP o1
      go_wp2_with fail
      refine (clone_Cells (n:=x.cells.length) (xs:=x.cells.flatMap Cell.row) hA.out.1 (Cell.one x.cells) hxs).mono ?_
      rintro e w4 ⟨sn,rfl,hOn,hE4x⟩
      have hE4 : Ext wr w4:=hE3.trans hE4x
      have bX4:=hA.out.2.1.ext hE4x
      have hslt : ∀ g,sn.ownBlock=some g→wr.heap.size+1≤g∧g < w4.heap.size:=fun g e=>by have:=hOn.lt (g:=g) e;simp only [World.size_alloc] at this;exact this
      obtain ⟨an,cn,rfl,hcn,hcn2,-⟩:=hOn.sl.slice_form
      have hE5:=Ext.setCell hE4 (p:=⟨wr.heap.size,2,none⟩) (Nat.le_refl _) (.slice an x.cells.length cn)
      have bX5:=bX4.set 2 (.slice an x.cells.length cn)
      have hO5:=ExtBut.own hOn (ExtBut.setCell w4 ⟨wr.heap.size,2,none⟩ (.slice an x.cells.length cn)) (fun g e h=>by have:=(hslt g e).1;have h' : g=wr.heap.size:=h;omega)
      have x0 : w4.cell? ⟨wr.heap.size,0,none⟩=some (.int .i64 x.num):=bX4.cell 0
      have x1 : w4.cell? ⟨wr.heap.size,1,none⟩=some (.bool x.live):=bX4.cell 1
      have x2 : w4.cell? ⟨wr.heap.size,2,none⟩=some (.slice ca x.cells.length ccp):=bX4.cell 2
      have xf:=bX4.frozen 2
      have hBx:=bX4.lt
      have o4:=hE4.cell o0
      have hE6:=hE5.alloc (.cells #[.int .i64 x.num,.bool x.live,.slice an x.cells.length cn] 74)
      have hB:=Lib.hid (And.intro hE6 (And.intro hO5 (And.intro hslt (And.intro bX5 hE4))))
      clear hOn hE4 bX4 hE5 bX5 hO5 hE6 hE4x
      go_wp2_with (at_builtin;refine Hid.out ?_)
      refine Hid.mk ?_
      have hS6 : Sl ((w4.setCell ⟨wr.heap.size,2,none⟩ (.slice an x.cells.length cn)).alloc (.cells #[.int .i64 x.num,.bool x.live,.slice an x.cells.length cn] 74)) 3 (.slice (some ⟨w4.heap.size,0,none⟩) 1 1) 1 (arow (.slice an x.cells.length cn) x):=by
       have:=(Own.lit' (B:=0) (e:=74) (k:=3) (w4.setCell ⟨wr.heap.size,2,none⟩ (.slice an x.cells.length cn)) #[.int .i64 x.num,.bool x.live,.slice an x.cells.length cn] 1 (Nat.zero_le _) (by simp [maxLen]) rfl).sl
       rw [World.size_setCell] at this
       exact this
      refine wpList_append_any rfl _ _ 22 22 rfl rfl rfl Tryz.underlying22 Tryz.underlying22 hai.out haz.out hai3.out haz3.out (hA.out.2.2.2.2.2.2.1.ext hB.out.1) hS6 (by simp [arow,Value.oneCell']) (by simp [maxLen];omega) (by rw [haby.out];omega) (Nat.le_trans hA.out.2.2.2.2.2.1.size hB.out.1.size) ?_
      intro v' w6 hOv hKv hbv _
      have hlk:=hA.out.2.2.2.2.2.2.2.2
      have hP : OM w6 w5.heap.size v' (vs ++ [.slice an x.cells.length cn]) (m.al.take k ++ [x]):=OM.push hA.out.2.2.2.2.1 hB.out.1 (OwnC.mono (OwnC.ext hB.out.2.1 ((Ext.refl _).alloc _)) (by have:=hA.out.2.2.2.2.2.1.size;simp only [World.size_alloc];omega)) (fun g e=>by have:=(hslt g e).1;omega) (by rw [hlk];exact hOv) hKv hbv
      have htk : m.al.take k ++ [x]=m.al.take (k+1):=by rw [List.take_add_one,hA.out.2.2.2.1];rfl
      rw [htk] at hP
      obtain ⟨av',cv',rfl,-⟩:=hOv.sl.slice_form
      have hvB:=fun g e=>(hA.out.2.2.2.2.2.2.1.lt (g:=g) e).1
      have hvB':=fun g e=>(hOv.lt (g:=g) e).1
      have hin':=OM.inner_lt hP
      have bO6:=(hA.out.2.2.2.2.2.2.2.1.ext hB.out.1).but (ExtBut.of_keeps hKv) (fun h=>by have:=hvB _ h;have:=hsz5.out;omega)
      have hX6:=((hA.out.2.2.2.2.2.1.trans (ExtBut.of_ext hB.out.1)).trans' (ExtBut.of_keeps hKv) (fun x hx h=>by have:=hvB _ h;omega)).trans (ExtBut.setCell w6 ⟨wt.heap.size,0,none⟩ (.slice av' (k+1) cv'))
      have hP7:=OM.but hP (ExtBut.setCell w6 ⟨wt.heap.size,0,none⟩ (.slice av' (k+1) cv')) (fun g e h=>by have:=hvB' g e;have:=hsz5.out;have h' : g=wt.heap.size:=h;omega) (fun s hs g e h=>by have:=(hin' s hs g e).1;have:=hsz5.out;have h' : g=wt.heap.size:=h;omega)
      have o6 : w6.cell? ⟨wt.heap.size,0,none⟩=some (.slice av k cv):=bO6.cell 0
      have of6:=bO6.frozen 0
      have bO7:=bO6.set 0 (.slice av' (k+1) cv')
      have hR:=Lib.hid (And.intro bO7 (And.intro hP7 hX6))
      clear hvB hvB' hin' bO6 hX6 hP7 bO7 hP hOv hKv hbv hlk htk
      go_wp2
      go_roundw
      case rel=>exact ⟨k+1,_,_,by omega,by go_num,hR.out.1,hR.out.2.1,hR.out.2.2⟩
      case measure=>simp [intOf];omega
     ·have hkl : k=m.al.length:=by omega
      subst hkl
      rw [List.take_length] at hT
      have hB5:=Nat.le_of_eq hsz5.out.symm
      have hin2 : All2 (fun s a=>Cls wr s a.cells) vs m.al:=hT.inner.mono fun _ _ h=>OwnC.read h
      have hC2:=Lib.hid (cells_find (m:=m) ⟨pa,po,pt⟩ l.length hin2 hT.outer.sl hn)
      have hask:=hA.out
      rw [hask] at hC2
      unfold Ptr.val at hC2
      dsimp only at hC2
      have hT':=Lib.hid hT
      have hOv:=Lib.hid hOv
      have p0 : wr.cell? ⟨w.heap.size+1,0,none⟩=some (.int .i64 pa):=bP.cell 0
      have p1 : wr.cell? ⟨w.heap.size+1,1,none⟩=some (.int .i64 po):=bP.cell 1
      have p2 : wr.cell? ⟨w.heap.size+1,2,none⟩=some (.int .i64 pt):=bP.cell 2
      clear hT hlk bM
      cases ix with
      | none =>
       have hres:=Lib.hid (storeR_none hask hall.out)
       have hfv : findV m vs ⟨pa,po,pt⟩ l.length = .slice none 0 0:=by unfold findV;rw [hask]
       rw [hfv] at hC2
       clear hask hfv
       go_wp2_with fail
       refine hC2.out.mono ?_
       rintro e w7 ⟨rfl,hE7⟩
       replace bR:=bR.ext hE7
       have hF7:=hFq.trans hE7
       clear p0 p1 p2 o0 o1 bO hBl
       have zr0 : w7.cell? ⟨w.heap.size+1+1,0,none⟩=some (.slice none 0 0):=bR.cell 0
       have zr1 : w7.cell? ⟨w.heap.size+1+1,1,none⟩=some (.int .i64 0):=bR.cell 1
       have zf0:=bR.frozen 0
       have zf1:=bR.frozen 1
       clear bP bR
       go_wp2
       rw [hres.out]
       refine bodyPost_ret (v := .tuple #[.agg #[.slice none 0 0,.int .i64 0],.int .u8 3,.int .i64 0]) (by simp [results,Tryz.f21,go_sem,zr0,zr1]) rfl (RetMW.none ((hF7.setCell (by simp;omega) _).setCell (by simp;omega) _))
      | some i =>
       obtain ⟨-,-,-,-,hn1,hn2,-,x,hx,ho1,ho2⟩:=askR_inv hask
       dsimp only at ho1 ho2
       cases hlv : x.live
       ·have hres:=Lib.hid (storeR_dead hask hall.out hx hlv)
        have hfv : findV m vs ⟨pa,po,pt⟩ l.length = .slice none 0 0:=by
         have hg : m.al.getD i Alloc.zero=x:=by rw [List.getD_eq_getElem?_getD,hx];rfl
         unfold findV
         rw [hask]
         show (if (m.al.getD i Alloc.zero).live=true then _ else _)=_
         rw [hg,hlv]
         rfl
        rw [hfv] at hC2
        clear hask hfv hx hlv ho1 ho2
        go_wp2_with fail
        refine hC2.out.mono ?_
        rintro e w7 ⟨rfl,hE7⟩
        replace bR:=bR.ext hE7
        have hF7:=hFq.trans hE7
        clear p0 p1 p2 o0 o1 bO hBl
        have zr0 : w7.cell? ⟨w.heap.size+1+1,0,none⟩=some (.slice none 0 0):=bR.cell 0
        have zr1 : w7.cell? ⟨w.heap.size+1+1,1,none⟩=some (.int .i64 0):=bR.cell 1
        have zf0:=bR.frozen 0
        have zf1:=bR.frozen 1
        clear bP bR
        go_wp2
        rw [hres.out]
        refine bodyPost_ret (v := .tuple #[.agg #[.slice none 0 0,.int .i64 0],.int .u8 3,.int .i64 0]) (by simp [results,Tryz.f21,go_sem,zr0,zr1]) rfl (RetMW.none ((hF7.setCell (by simp;omega) _).setCell (by simp;omega) _))
       ·have hres:=Lib.hid (storeR_yes hask hall.out hx hlv)
        obtain ⟨o,rfl⟩ : ∃ o : Nat,po=(o : Int):=⟨po.toNat,by omega⟩
        have ho3 : o+l.length≤x.cells.length:=by omega
        have hxs : x.cells.length≤1000000:=hsmx.out x (List.mem_of_getElem? hx)
        have hxl : 0 < x.cells.length:=by omega
        have hlp : 0 < l.length:=by omega
        rw [show (⟨pa,(o : Int),pt⟩ : Ptr).o.toNat=o from Int.toNat_natCast o] at hres
        obtain ⟨s',hs',hOC⟩:=hT'.out.inner.get hx
        have hOC' : Own wr w5.heap.size 78 5 s' x.cells.length (x.cells.flatMap Cell.row):=hOC
        obtain ⟨gi,icp,rfl,hic1,hic2,hgi1,hgi2⟩:=hOC'.form hxl
        unfold maxLen at hic2
        have hfv : findV m vs ⟨pa,(o : Int),pt⟩ l.length = .slice (some ⟨gi,o * 5,none⟩) l.length (icp - o):=by
         have hg : m.al.getD i Alloc.zero=x:=by rw [List.getD_eq_getElem?_getD,hx];rfl
         have hv : vs.getD i (.slice none 0 0) = .slice (some ⟨gi,0,none⟩) x.cells.length icp:=by rw [List.getD_eq_getElem?_getD,hs'];rfl
         unfold findV
         rw [hask]
         show (if (m.al.getD i Alloc.zero).live=true then cutV (vs.getD i (.slice none 0 0)) (Int.toNat (o : Int)) (Int.toNat (l.length : Int)) else _)=_
         rw [hg,if_pos hlv,hv,Int.toNat_natCast,Int.toNat_natCast]
         unfold cutV
         dsimp only
         rw [if_neg (by omega)]
         simp only [Option.map_some]
         congr 2
         unfold Addr.add
         split
         ·rename_i h0
          rw [h0]
         ·simp
        rw [hfv] at hC2
        have hgb:=OM.inner_lt hT'.out _ (List.mem_of_getElem? hs') gi rfl
        have hX':=Lib.hid (And.intro hx (And.intro hs' hOC'))
        have q : ((l.length : Int) == 0)=false:=beq_eq_false_iff_ne.2 (by omega)
        have hUq:=Lib.hid (hU.out.ext hFq)
        clear hask hfv hx hlv ho1 ho2 hs' hOC hOC'
        go_wp2_with fail
        refine hC2.out.mono ?_
        rintro e w7 ⟨rfl,hE7⟩
        replace bR:=bR.ext hE7
        replace bO:=bO.ext hE7
        have hF7:=hFq.trans hE7
        have hT7:=Lib.hid (OM.ext hT'.out hE7)
        have hO7:=hX'.out.2.2.ext hE7
        obtain ⟨w8,hrun,hO8,hX8⟩:=run_copy_fit (P:=Tryz.prog) (ty:=3) (tx:=31) (dcap:=icp - o) Tryz.underlying31 hci.out hci3.out hO7 (hUq.out.ext hE7) (Cell.one l) ho3
        have hO8' : Own w8 w5.heap.size 78 5 (.slice (some ⟨gi,0,none⟩) x.cells.length icp) (putCells x o l).cells.length ((putCells x o l).cells.flatMap Cell.row):=by
         rw [put_len ho3]
         have e1 : (x.cells.flatMap Cell.row).take (o * 5) ++ l.flatMap Cell.row ++ (x.cells.flatMap Cell.row).drop ((o+l.length) * 5)=(putCells x o l).cells.flatMap Cell.row:=by
          rw [rows_take Cell.row Cell.row_len,rows_drop Cell.row Cell.row_len,← List.flatMap_append,← List.flatMap_append]
          rfl
         rw [← e1]
         exact hO8
        have hrun':=Lib.hid hrun
        have hOM8:=OM.put_inner hT7.out hX'.out.1 hX'.out.2.1 rfl hX8 (show OwnC w8 w5.heap.size _ (putCells x o l) from hO8') rfl rfl
        have bR8:=bR.but hX8 (by omega)
        have bO8:=bO.but hX8 (by omega)
        have hF8:=ExtBut.ext hF7 hX8 (fun y h=>by have:=hF.size;omega)
        have hK:=Lib.hid (And.intro hOM8 hF8)
        clear p0 p1 p2 o0 o1 hrun hO8 hX8 hOM8 hF8 bP hO8'
        have zr0 : w8.cell? ⟨w.heap.size+1+1,0,none⟩=some (.slice none 0 0):=bR8.cell 0
        have zr1 : w8.cell? ⟨w.heap.size+1+1,1,none⟩=some (.int .i64 0):=bR8.cell 1
        have zf0:=bR8.frozen 0
        have zf1:=bR8.frozen 1
        have o0 : w8.cell? ⟨wt.heap.size,0,none⟩=some (.slice av m.al.length cv):=bO8.cell 0
        have o1 : w8.cell? ⟨wt.heap.size,1,none⟩=some (.int .i64 m.next):=bO8.cell 1
        clear bR8 bO8 bR bO
        go_wp2_with (refine wpList_copy_run rfl (.tmp 77) (.tmp 78) 31 31 3 rfl rfl rfl rfl hrun'.out ?_)
        obtain ⟨hOM8,hF8⟩:=hK.out
        have hY:=((ExtBut.setCell w8 ⟨w.heap.size+1+1,0,none⟩ (.slice av m.al.length cv)).mono (S':=fun b=>b=w.heap.size+1+1) (fun x _ h=>h)).trans ((ExtBut.setCell _ ⟨w.heap.size+1+1,1,none⟩ (.int .i64 m.next)).mono (S':=fun b=>b=w.heap.size+1+1) (fun x _ h=>h))
        have hOM9:=OM.but hOM8 hY (fun g e h=>by have:=(hOM8.outer.lt e).1;omega) (fun s hs g e h=>by have:=(OM.inner_lt hOM8 s hs g e).1;omega)
        rw [hres.out]
        refine bodyPost_ret (v := .tuple #[.agg #[.slice av m.al.length cv,.int .i64 m.next],.int .u8 0,.int .i64 0]) (by simp [results,Tryz.f21,go_sem,zr0,zr1]) rfl ⟨_,rfl,?_,ExtBut.ext hF8 hY (fun y h=>by omega)⟩
        have hw:=hF5.size
        have hB9 : OM _ w5.heap.size _ _ _:=hOM9
        exact FrM.of_OM hB9 hw
 ·have hres:=Lib.hid (storeR_err (by rw [hask]) he)
  have q : (err != 0)=true:=by simp [he]
  have q' : (err == 0)=false:=by simp [he]
  clear hask hc he
  go_enter Tryz.func21,Tryz.ntmps21
  go_wp2_with fail
  refine hC.out.mono ?_
  rintro e w1 ⟨rfl,hE1⟩
  replace bR:=bR.ext hE1
  have hF1:=hE0.trans hE1
  have zr0 : w1.cell? ⟨w.heap.size+1+1,0,none⟩=some (.slice none 0 0):=bR.cell 0
  have zr1 : w1.cell? ⟨w.heap.size+1+1,1,none⟩=some (.int .i64 0):=bR.cell 1
  have zf0:=bR.frozen 0
  have zf1:=bR.frozen 1
  clear bM bP bR
  go_wp2
  rw [hres.out]
  refine bodyPost_ret (v := .tuple #[.agg #[.slice none 0 0,.int .i64 0],.int .u8 0,.int .i64 err]) (by simp [results,Tryz.f21,go_sem,zr0,zr1]) rfl (RetMW.none ((hF1.setCell (by simp;omega) _).setCell (by simp;omega) _))
end Go.Proofs.YtnplphcnagooeaaGreatDoor
