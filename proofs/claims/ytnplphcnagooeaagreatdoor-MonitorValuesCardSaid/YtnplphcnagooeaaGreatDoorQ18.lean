/- Several texts in one: CelX7, MonV. -/
import Derived.Test.YtnplphcnagooeaaGreatDoorQ17
/- Contracts: StoreAll of cells; Store of both. (printed by gen/store27.py) -/
namespace Go.Proofs.YtnplphcnagooeaaGreatDoor
set_option maxRecDepth 100000
open Go.RowKit
theorem cellErr_ok {c : Cell} (h : c.ok=true) : cellErr c=0:=by simp [cellErr,h]
theorem cellErr_bad {c : Cell} (h : c.ok=false) : cellErr c=8:=by simp [cellErr,h]
set_option maxHeartbeats 6400000 in
theorem cells_StoreAll {m : Mem} {l : List Cell} {s u : Value} {w : World} (p : Ptr) (hl : Als w s m.al) (hn : i64B m.next) (hc : Cls w u l) :
  Calls Tryz.prog 21 #[.agg #[s,.int .i64 m.next],p.val,u] w (RetMW w (storeR m p l).1 (storeR m p l).2.1 (storeR m p l).2.2):=by
 have hL:=Lib.hid hl
 obtain ⟨vs0,hin,hout⟩:=hl
 obtain ⟨pa,po,pt⟩:=p
 have hE0:=(((Ext.refl w).alloc (.cells #[s,.int .i64 m.next] 24)).alloc (.cells #[.int .i64 pa,.int .i64 po,.int .i64 pt] 30)).alloc (.cells #[.slice none 0 0,.int .i64 0] 24)
 have hC:=Lib.hid (cells_find ⟨pa,po,pt⟩ l.length (hin.mono fun _ _ h=>Cls.ext h hE0) (hout.ext hE0) hn)
 have hU:=Lib.hid hc
 obtain ⟨a,cp,rfl,hlc,hcm,-⟩:=hout.slice_form
 obtain ⟨ua,uc,rfl,huc,huc2,-⟩:=hc.form
 unfold maxLen at hcm huc2
 have bM:=((Box.new w 24 #[.slice a m.al.length cp,.int .i64 m.next]).ext ((Ext.refl _).alloc (.cells #[.int .i64 pa,.int .i64 po,.int .i64 pt] 30))).ext ((Ext.refl _).alloc (.cells #[.slice none 0 0,.int .i64 0] 24))
 have bP:=(Box.new (w.alloc (.cells #[.slice a m.al.length cp,.int .i64 m.next] 24)) 30 #[.int .i64 pa,.int .i64 po,.int .i64 pt]).ext ((Ext.refl _).alloc (.cells #[.slice none 0 0,.int .i64 0] 24))
 have bR:=Box.new ((w.alloc (.cells #[.slice a m.al.length cp,.int .i64 m.next] 24)).alloc (.cells #[.int .i64 pa,.int .i64 po,.int .i64 pt] 30)) 24 #[.slice none 0 0,.int .i64 0]
 simp only [World.size_alloc] at bP bR
 obtain ⟨fv,hfv⟩ : ∃ fv,findV m vs0 ⟨pa,po,pt⟩ l.length=fv:=⟨_,rfl⟩
 rw [hfv] at hC
 obtain ⟨fa,fn,fc,rfl⟩ : ∃ fa fn fc,fv = .slice fa fn fc:=by
  have h:=findV_read ⟨pa,po,pt⟩ (l.length : Int) hin
  rw [hfv] at h
  obtain ⟨fa,fc,e,-⟩:=h.form
  exact ⟨fa,_,fc,e⟩
 obtain ⟨ix,err,hask⟩ : ∃ ix err,askR m ⟨pa,po,pt⟩ l.length=(ix,err):=⟨_,_,rfl⟩
 rw [hask] at hC
 dsimp only at hC
 unfold Ptr.val at *
 clear hfv hin hout
 by_cases he : err=0
 ·subst he
  have hbad : Hid (l.all Cell.ok=false→storeR m ⟨pa,po,pt⟩ l=(Mem.zero,0,8)):=Hid.mk (fun h=>storeR_bad (by rw [hask]) h)
  have hA:=Lib.hid hask
  have hmok : Hid (m.ok=true):=Hid.mk (by
   cases h : m.ok with
   | true=>rfl
   | false=>rw [askR_bad h] at hask;cases hask)
  clear hask hc
  go_enter Tryz.func21,Tryz.ntmps21
  go_wp2_with fail
  refine hC.out.mono ?_
  rintro e w1 ⟨rfl,hE1⟩
  have hF1:=hE0.trans hE1
  replace bM:=bM.ext hE1
  replace bP:=bP.ext hE1
  replace bR:=bR.ext hE1
  go_wp2
  go_loopw [33] (fun kv wr => ∃ k : Nat,k≤l.length∧kv = .int .i64 k∧Ext w1 wr∧Hid ((l.take k).all Cell.ok=true)) (fun kv _=>l.length - (intOf kv).toNat)
  case atStart=>exact ⟨0,Nat.zero_le _,rfl,Ext.refl _,by simp [Hid]⟩
  case round =>
   obtain ⟨k,hk,rfl,hE,hN⟩:=hrel
   have hF:=hF1.trans hE
   replace bM:=bM.ext hE
   replace bP:=bP.ext hE
   replace bR:=bR.ext hE
   by_cases hlt : k < l.length
   ·obtain ⟨x,hx⟩ : ∃ x,l[k]? = some x:=⟨l[k],by simp [hlt]⟩
    obtain ⟨b,off,rfl,hbb,c0,c1,c2,c3,c4⟩:=(hU.out.ext hF).cell hx
    have hX:=Lib.hid hx
    clear hx
    have hi0 : (0 : Int)≤(k : Int):=by omega
    have hi1 : (k : Int) < (l.length : Int):=by omega
    have hCe:=Lib.hid (allocs_CheckCell x)
    unfold Cell.val at hCe
    have hEb : Ext wr (wr.alloc (.cells #[.int .u8 x.k,.int .i64 x.n,.int .i64 x.a,.int .i64 x.o,.int .i64 x.t] 78)):=(Ext.refl wr).alloc _
    cases hok : x.ok
    ·have hce:=Lib.hid (cellErr_bad hok)
     have hres:=Lib.hid (hbad.out (all_miss' hX.out hok))
     clear hok
     go_wp2_with fail
     refine (hCe.out _).mono ?_
     rintro e w2 ⟨rfl,hE2⟩
     rw [hce.out]
     replace bM:=(bM.ext hEb).ext hE2
     replace bP:=(bP.ext hEb).ext hE2
     replace bR:=(bR.ext hEb).ext hE2
     have hF2:=(hF.trans hEb).trans hE2
     have zr0 : w2.cell? ⟨w.heap.size+1+1,0,none⟩=some (.slice none 0 0):=bR.cell 0
     have zr1 : w2.cell? ⟨w.heap.size+1+1,1,none⟩=some (.int .i64 0):=bR.cell 1
     have zf0:=bR.frozen 0
     have zf1:=bR.frozen 1
     clear bM bP bR
     go_wp2
     rw [hres.out]
     refine bodyPost_ret (v := .tuple #[.agg #[.slice none 0 0,.int .i64 0],.int .u8 0,.int .i64 8]) (by simp [results,Tryz.f21,go_sem,zr0,zr1]) rfl (RetMW.none ((hF2.setCell (by simp;omega) _).setCell (by simp;omega) _))
    ·have hce:=Lib.hid (cellErr_ok hok)
     have hN2:=Lib.hid (all_take_succ' hN.out hX.out hok)
     clear hok
     go_wp2_with fail
     refine (hCe.out _).mono ?_
     rintro e w2 ⟨rfl,hE2⟩
     rw [hce.out]
     go_wp2
     go_roundw
     case rel=>exact ⟨k+1,by omega,by go_num,(hE.trans hEb).trans hE2,hN2.out⟩
     case measure=>simp [intOf];omega
   ·have hkl : k=l.length:=by omega
    subst hkl
    obtain ⟨wt,rfl⟩ : ∃ wt : World,wt=wr:=⟨_,rfl⟩
    have hall:=hN.out
    rw [List.take_length] at hall
    have hall:=Lib.hid hall
    have hsm:=small_of_ok hmok.out
    have hs1:=hsm.1
    have m0 : wt.cell? ⟨w.heap.size,0,none⟩=some (.slice a m.al.length cp):=bM.cell 0
    have m1 : wt.cell? ⟨w.heap.size,1,none⟩=some (.int .i64 m.next):=bM.cell 1
    have hbl:=bR.lt
    have hb0 : w.heap.size < wt.heap.size:=by omega
    clear hbad hN
    go_wp2
    have hE4 : Ext wt (wt.alloc (.cells #[.slice none 0 0,.int .i64 m.next] 24)):=(Ext.refl wt).alloc _
    have bO:=Box.new wt 24 #[.slice none 0 0,.int .i64 m.next]
    have hsz5 : (wt.alloc (.cells #[.slice none 0 0,.int .i64 m.next] 24)).heap.size=wt.heap.size+1:=by simp
    obtain ⟨w5,hw5⟩ : ∃ w5,wt.alloc (.cells #[.slice none 0 0,.int .i64 m.next] 24)=w5:=⟨_,rfl⟩
    rw [hw5] at hE4 bO hsz5 ⊢
    clear hw5
    have hsz5:=Lib.hid hsz5
    have hF5:=hF.trans hE4
    replace bM:=bM.ext hE4
    replace bP:=bP.ext hE4
    replace bR:=bR.ext hE4
    clear m0 m1
    obtain ⟨ci,cz,hci,hcz,hci3,hcz3,hcby⟩:=Cell.infoE
    obtain ⟨ai,az,hai,haz,hai3,haz3,haby⟩:=Alloc.infoE
    have hci:=Lib.hid hci;have hcz:=Lib.hid hcz;have hci3:=Lib.hid hci3;have hcz3:=Lib.hid hcz3;have hcby:=Lib.hid hcby
    have hai:=Lib.hid hai;have haz:=Lib.hid haz;have hai3:=Lib.hid hai3;have haz3:=Lib.hid haz3;have haby:=Lib.hid haby
    have hsmx:=Lib.hid hsm.2
    clear hsm
    go_loopw [50] (fun iv wr => ∃ (k : Nat) (v : Value) (vs : List Value),k≤m.al.length∧iv = .int .i64 k∧Box wr wt.heap.size 24 #[v,.int .i64 m.next]∧OM wr w5.heap.size v vs (m.al.take k)∧ExtBut (· = wt.heap.size) w5 wr) (fun iv _=>m.al.length - (intOf iv).toNat)
    case atStart=>exact ⟨0,_,[],Nat.zero_le _,rfl,bO,OTb.nil _ _,ExtBut.refl _ _⟩
    case round =>
     obtain ⟨k,v,vs,hk,rfl,bO,hT,hX⟩:=hrel
     have bM:=bM.but hX (by omega)
     have bP:=bP.but hX (by omega)
     have bR:=bR.but hX (by omega)
     have hFq : Ext w wr:=ExtBut.ext hF5 hX (fun x h=>by have:=hF.size;omega)
     have hlk : (m.al.take k).length=k:=by rw [List.length_take];omega
     have hOv:=hT.outer
     rw [hlk] at hOv
     obtain ⟨av,cv,rfl,hcv1,hcv2,-⟩:=hOv.sl.slice_form
     unfold maxLen at hcv2
     have o0 : wr.cell? ⟨wt.heap.size,0,none⟩=some (.slice av k cv):=bO.cell 0
     have o1 : wr.cell? ⟨wt.heap.size,1,none⟩=some (.int .i64 m.next):=bO.cell 1
     have hBl:=bO.lt
     by_cases hlt : k < m.al.length
     ·obtain ⟨x,hx⟩ : ∃ x,m.al[k]? = some x:=⟨m.al[k],by simp [hlt]⟩
      obtain ⟨b,off,sv,rfl,hbb,d0,d1,d2,hcl⟩:=(hL.out.ext hFq).cell hx
      obtain ⟨ca,ccp,rfl,hclc,hccm,-⟩:=hcl.form
      have hxs : x.cells.length≤1000000:=hsmx.out x (List.mem_of_getElem? hx)
      have hE3:=(Ext.refl wr).alloc (.cells #[.int .i64 x.num,.bool x.live,.slice ca x.cells.length ccp] 74)
      have bX:=Box.new wr 74 #[.int .i64 x.num,.bool x.live,.slice ca x.cells.length ccp]
      have hA:=Lib.hid (And.intro (hcl.ext hE3) (And.intro bX (And.intro trivial (And.intro hx (And.intro hT (And.intro hX (And.intro hOv (And.intro bO hlk))))))))
      clear hcl bX hx hT hX hOv bO hlk bM bR bP o1
      go_wp2_with fail
      refine (clone_Cells (n:=x.cells.length) (xs:=x.cells.flatMap Cell.row) hA.out.1 (Cell.one x.cells) hxs).mono ?_
      rintro e w4 ⟨sn,rfl,hOn,hE4x⟩
      have hE4 : Ext wr w4:=hE3.trans hE4x
      have bX4:=hA.out.2.1.ext hE4x
      have hslt : ∀ g,sn.ownBlock=some g→wr.heap.size+1≤g∧g < w4.heap.size:=fun g e=>by have:=hOn.lt (g:=g) e;simp only [World.size_alloc] at this;exact this
      obtain ⟨an,cn,rfl,hcn,hcn2,-⟩:=hOn.sl.slice_form
      have hE5:=Ext.setCell hE4 (p:=⟨wr.heap.size,2,none⟩) (Nat.le_refl _) (.slice an x.cells.length cn)
      have bX5:=bX4.set 2 (.slice an x.cells.length cn)
      have hO5:=ExtBut.own hOn (ExtBut.setCell w4 ⟨wr.heap.size,2,none⟩ (.slice an x.cells.length cn)) (fun g e h=>by have:=(hslt g e).1;have h' : g=wr.heap.size:=h;omega)
      have x0 : w4.cell? ⟨wr.heap.size,0,none⟩=some (.int .i64 x.num):=bX4.cell 0
      have x1 : w4.cell? ⟨wr.heap.size,1,none⟩=some (.bool x.live):=bX4.cell 1
      have x2 : w4.cell? ⟨wr.heap.size,2,none⟩=some (.slice ca x.cells.length ccp):=bX4.cell 2
      have xf:=bX4.frozen 2
      have hBx:=bX4.lt
      have o4:=hE4.cell o0
      have hE6:=hE5.alloc (.cells #[.int .i64 x.num,.bool x.live,.slice an x.cells.length cn] 74)
      have hB:=Lib.hid (And.intro hE6 (And.intro hO5 (And.intro hslt (And.intro bX5 hE4))))
      clear hOn hE4 bX4 hE5 bX5 hO5 hE6 hE4x
      go_wp2_with (at_builtin;refine Hid.out ?_)
      refine Hid.mk ?_
      have hS6 : Sl ((w4.setCell ⟨wr.heap.size,2,none⟩ (.slice an x.cells.length cn)).alloc (.cells #[.int .i64 x.num,.bool x.live,.slice an x.cells.length cn] 74)) 3 (.slice (some ⟨w4.heap.size,0,none⟩) 1 1) 1 (arow (.slice an x.cells.length cn) x):=by
       have:=(Own.lit' (B:=0) (e:=74) (k:=3) (w4.setCell ⟨wr.heap.size,2,none⟩ (.slice an x.cells.length cn)) #[.int .i64 x.num,.bool x.live,.slice an x.cells.length cn] 1 (Nat.zero_le _) (by simp [maxLen]) rfl).sl
       rw [World.size_setCell] at this
       exact this
      refine wpList_append_any rfl _ _ 22 22 rfl rfl rfl Tryz.underlying22 Tryz.underlying22 hai.out haz.out hai3.out haz3.out (hA.out.2.2.2.2.2.2.1.ext hB.out.1) hS6 (by simp [arow,Value.oneCell']) (by simp [maxLen];omega) (by rw [haby.out];omega) (Nat.le_trans hA.out.2.2.2.2.2.1.size hB.out.1.size) ?_
      intro v' w6 hOv hKv hbv _
      have hlk:=hA.out.2.2.2.2.2.2.2.2
      have hP : OM w6 w5.heap.size v' (vs ++ [.slice an x.cells.length cn]) (m.al.take k ++ [x]):=OM.push hA.out.2.2.2.2.1 hB.out.1 (OwnC.mono (OwnC.ext hB.out.2.1 ((Ext.refl _).alloc _)) (by have:=hA.out.2.2.2.2.2.1.size;simp only [World.size_alloc];omega)) (fun g e=>by have:=(hslt g e).1;omega) (by rw [hlk];exact hOv) hKv hbv
      have htk : m.al.take k ++ [x]=m.al.take (k+1):=by rw [List.take_add_one,hA.out.2.2.2.1];rfl
      rw [htk] at hP
      obtain ⟨av',cv',rfl,-⟩:=hOv.sl.slice_form
      have hvB:=fun g e=>(hA.out.2.2.2.2.2.2.1.lt (g:=g) e).1
      have hvB':=fun g e=>(hOv.lt (g:=g) e).1
      have hin':=OM.inner_lt hP
      have bO6:=(hA.out.2.2.2.2.2.2.2.1.ext hB.out.1).but (ExtBut.of_keeps hKv) (fun h=>by have:=hvB _ h;have:=hsz5.out;omega)
      have hX6:=((hA.out.2.2.2.2.2.1.trans (ExtBut.of_ext hB.out.1)).trans' (ExtBut.of_keeps hKv) (fun x hx h=>by have:=hvB _ h;omega)).trans (ExtBut.setCell w6 ⟨wt.heap.size,0,none⟩ (.slice av' (k+1) cv'))
      have hP7:=OM.but hP (ExtBut.setCell w6 ⟨wt.heap.size,0,none⟩ (.slice av' (k+1) cv')) (fun g e h=>by have:=hvB' g e;have:=hsz5.out;have h' : g=wt.heap.size:=h;omega) (fun s hs g e h=>by have:=(hin' s hs g e).1;have:=hsz5.out;have h' : g=wt.heap.size:=h;omega)
      have o6 : w6.cell? ⟨wt.heap.size,0,none⟩=some (.slice av k cv):=bO6.cell 0
      have of6:=bO6.frozen 0
      have bO7:=bO6.set 0 (.slice av' (k+1) cv')
      have hR:=Lib.hid (And.intro bO7 (And.intro hP7 hX6))
      clear hvB hvB' hin' bO6 hX6 hP7 bO7 hP hOv hKv hbv hlk htk
      go_wp2
      go_roundw
      case rel=>exact ⟨k+1,_,_,by omega,by go_num,hR.out.1,hR.out.2.1,hR.out.2.2⟩
      case measure=>simp [intOf];omega
     ·have hkl : k=m.al.length:=by omega
      subst hkl
      rw [List.take_length] at hT
      have hB5:=Nat.le_of_eq hsz5.out.symm
      have hin2 : All2 (fun s a=>Cls wr s a.cells) vs m.al:=hT.inner.mono fun _ _ h=>OwnC.read h
      have hC2:=Lib.hid (cells_find (m:=m) ⟨pa,po,pt⟩ l.length hin2 hT.outer.sl hn)
      have hask:=hA.out
      rw [hask] at hC2
      unfold Ptr.val at hC2
      dsimp only at hC2
      have hT':=Lib.hid hT
      have hOv:=Lib.hid hOv
      have p0 : wr.cell? ⟨w.heap.size+1,0,none⟩=some (.int .i64 pa):=bP.cell 0
      have p1 : wr.cell? ⟨w.heap.size+1,1,none⟩=some (.int .i64 po):=bP.cell 1
      have p2 : wr.cell? ⟨w.heap.size+1,2,none⟩=some (.int .i64 pt):=bP.cell 2
      clear hT hlk bM
      cases ix with
      | none =>
       have hres:=Lib.hid (storeR_none hask hall.out)
       have hfv : findV m vs ⟨pa,po,pt⟩ l.length = .slice none 0 0:=by unfold findV;rw [hask]
       rw [hfv] at hC2
       clear hask hfv
       go_wp2_with fail
       refine hC2.out.mono ?_
       rintro e w7 ⟨rfl,hE7⟩
       replace bR:=bR.ext hE7
       have hF7:=hFq.trans hE7
       clear p0 p1 p2 o0 o1 bO hBl
       have zr0 : w7.cell? ⟨w.heap.size+1+1,0,none⟩=some (.slice none 0 0):=bR.cell 0
       have zr1 : w7.cell? ⟨w.heap.size+1+1,1,none⟩=some (.int .i64 0):=bR.cell 1
       have zf0:=bR.frozen 0
       have zf1:=bR.frozen 1
       clear bP bR
       go_wp2
       rw [hres.out]
       refine bodyPost_ret (v := .tuple #[.agg #[.slice none 0 0,.int .i64 0],.int .u8 3,.int .i64 0]) (by simp [results,Tryz.f21,go_sem,zr0,zr1]) rfl (RetMW.none ((hF7.setCell (by simp;omega) _).setCell (by simp;omega) _))
      | some i =>
       obtain ⟨-,-,-,-,hn1,hn2,-,x,hx,ho1,ho2⟩:=askR_inv hask
       dsimp only at ho1 ho2
       cases hlv : x.live
       ·have hres:=Lib.hid (storeR_dead hask hall.out hx hlv)
        have hfv : findV m vs ⟨pa,po,pt⟩ l.length = .slice none 0 0:=by
         have hg : m.al.getD i Alloc.zero=x:=by rw [List.getD_eq_getElem?_getD,hx];rfl
         unfold findV
         rw [hask]
         show (if (m.al.getD i Alloc.zero).live=true then _ else _)=_
         rw [hg,hlv]
         rfl
        rw [hfv] at hC2
        clear hask hfv hx hlv ho1 ho2
        go_wp2_with fail
        refine hC2.out.mono ?_
        rintro e w7 ⟨rfl,hE7⟩
        replace bR:=bR.ext hE7
        have hF7:=hFq.trans hE7
        clear p0 p1 p2 o0 o1 bO hBl
        have zr0 : w7.cell? ⟨w.heap.size+1+1,0,none⟩=some (.slice none 0 0):=bR.cell 0
        have zr1 : w7.cell? ⟨w.heap.size+1+1,1,none⟩=some (.int .i64 0):=bR.cell 1
        have zf0:=bR.frozen 0
        have zf1:=bR.frozen 1
        clear bP bR
        go_wp2
        rw [hres.out]
        refine bodyPost_ret (v := .tuple #[.agg #[.slice none 0 0,.int .i64 0],.int .u8 3,.int .i64 0]) (by simp [results,Tryz.f21,go_sem,zr0,zr1]) rfl (RetMW.none ((hF7.setCell (by simp;omega) _).setCell (by simp;omega) _))
       ·have hres:=Lib.hid (storeR_yes hask hall.out hx hlv)
        obtain ⟨o,rfl⟩ : ∃ o : Nat,po=(o : Int):=⟨po.toNat,by omega⟩
        have ho3 : o+l.length≤x.cells.length:=by omega
        have hxs : x.cells.length≤1000000:=hsmx.out x (List.mem_of_getElem? hx)
        have hxl : 0 < x.cells.length:=by omega
        have hlp : 0 < l.length:=by omega
        rw [show (⟨pa,(o : Int),pt⟩ : Ptr).o.toNat=o from Int.toNat_natCast o] at hres
        obtain ⟨s',hs',hOC⟩:=hT'.out.inner.get hx
        have hOC' : Own wr w5.heap.size 78 5 s' x.cells.length (x.cells.flatMap Cell.row):=hOC
        obtain ⟨gi,icp,rfl,hic1,hic2,hgi1,hgi2⟩:=hOC'.form hxl
        unfold maxLen at hic2
        have hfv : findV m vs ⟨pa,(o : Int),pt⟩ l.length = .slice (some ⟨gi,o * 5,none⟩) l.length (icp - o):=by
         have hg : m.al.getD i Alloc.zero=x:=by rw [List.getD_eq_getElem?_getD,hx];rfl
         have hv : vs.getD i (.slice none 0 0) = .slice (some ⟨gi,0,none⟩) x.cells.length icp:=by rw [List.getD_eq_getElem?_getD,hs'];rfl
         unfold findV
         rw [hask]
         show (if (m.al.getD i Alloc.zero).live=true then cutV (vs.getD i (.slice none 0 0)) (Int.toNat (o : Int)) (Int.toNat (l.length : Int)) else _)=_
         rw [hg,if_pos hlv,hv,Int.toNat_natCast,Int.toNat_natCast]
         unfold cutV
         dsimp only
         rw [if_neg (by omega)]
         simp only [Option.map_some]
         congr 2
         unfold Addr.add
         split
         ·rename_i h0
          rw [h0]
         ·simp
        rw [hfv] at hC2
        have hgb:=OM.inner_lt hT'.out _ (List.mem_of_getElem? hs') gi rfl
        have hX':=Lib.hid (And.intro hx (And.intro hs' hOC'))
        have q : ((l.length : Int) == 0)=false:=beq_eq_false_iff_ne.2 (by omega)
        have hUq:=Lib.hid (hU.out.ext hFq)
        clear hask hfv hx hlv ho1 ho2 hs' hOC hOC'
        go_wp2_with fail
        refine hC2.out.mono ?_
        rintro e w7 ⟨rfl,hE7⟩
        replace bR:=bR.ext hE7
        replace bO:=bO.ext hE7
        have hF7:=hFq.trans hE7
        have hT7:=Lib.hid (OM.ext hT'.out hE7)
        have hO7:=hX'.out.2.2.ext hE7
        obtain ⟨w8,hrun,hO8,hX8⟩:=run_copy_fit (P:=Tryz.prog) (ty:=3) (tx:=31) (dcap:=icp - o) Tryz.underlying31 hci.out hci3.out hO7 (hUq.out.ext hE7) (Cell.one l) ho3
        have hO8' : Own w8 w5.heap.size 78 5 (.slice (some ⟨gi,0,none⟩) x.cells.length icp) (putCells x o l).cells.length ((putCells x o l).cells.flatMap Cell.row):=by
         rw [put_len ho3]
         have e1 : (x.cells.flatMap Cell.row).take (o * 5) ++ l.flatMap Cell.row ++ (x.cells.flatMap Cell.row).drop ((o+l.length) * 5)=(putCells x o l).cells.flatMap Cell.row:=by
          rw [rows_take Cell.row Cell.row_len,rows_drop Cell.row Cell.row_len,← List.flatMap_append,← List.flatMap_append]
          rfl
         rw [← e1]
         exact hO8
        have hrun':=Lib.hid hrun
        have hOM8:=OM.put_inner hT7.out hX'.out.1 hX'.out.2.1 rfl hX8 (show OwnC w8 w5.heap.size _ (putCells x o l) from hO8') rfl rfl
        have bR8:=bR.but hX8 (by omega)
        have bO8:=bO.but hX8 (by omega)
        have hF8:=ExtBut.ext hF7 hX8 (fun y h=>by have:=hF.size;omega)
        have hK:=Lib.hid (And.intro hOM8 hF8)
        clear p0 p1 p2 o0 o1 hrun hO8 hX8 hOM8 hF8 bP hO8'
        have zr0 : w8.cell? ⟨w.heap.size+1+1,0,none⟩=some (.slice none 0 0):=bR8.cell 0
        have zr1 : w8.cell? ⟨w.heap.size+1+1,1,none⟩=some (.int .i64 0):=bR8.cell 1
        have zf0:=bR8.frozen 0
        have zf1:=bR8.frozen 1
        have o0 : w8.cell? ⟨wt.heap.size,0,none⟩=some (.slice av m.al.length cv):=bO8.cell 0
        have o1 : w8.cell? ⟨wt.heap.size,1,none⟩=some (.int .i64 m.next):=bO8.cell 1
        clear bR8 bO8 bR bO
        go_wp2_with (refine wpList_copy_run rfl (.tmp 77) (.tmp 78) 31 31 3 rfl rfl rfl rfl hrun'.out ?_)
        obtain ⟨hOM8,hF8⟩:=hK.out
        have hY:=((ExtBut.setCell w8 ⟨w.heap.size+1+1,0,none⟩ (.slice av m.al.length cv)).mono (S':=fun b=>b=w.heap.size+1+1) (fun x _ h=>h)).trans ((ExtBut.setCell _ ⟨w.heap.size+1+1,1,none⟩ (.int .i64 m.next)).mono (S':=fun b=>b=w.heap.size+1+1) (fun x _ h=>h))
        have hOM9:=OM.but hOM8 hY (fun g e h=>by have:=(hOM8.outer.lt e).1;omega) (fun s hs g e h=>by have:=(OM.inner_lt hOM8 s hs g e).1;omega)
        rw [hres.out]
        refine bodyPost_ret (v := .tuple #[.agg #[.slice av m.al.length cv,.int .i64 m.next],.int .u8 0,.int .i64 0]) (by simp [results,Tryz.f21,go_sem,zr0,zr1]) rfl ⟨_,rfl,?_,ExtBut.ext hF8 hY (fun y h=>by omega)⟩
        have hw:=hF5.size
        have hB9 : OM _ w5.heap.size _ _ _:=hOM9
        exact FrM.of_OM hB9 hw
 ·have hres:=Lib.hid (storeR_err (by rw [hask]) he)
  have q : (err != 0)=true:=by simp [he]
  have q' : (err == 0)=false:=by simp [he]
  clear hask hc he
  go_enter Tryz.func21,Tryz.ntmps21
  go_wp2_with fail
  refine hC.out.mono ?_
  rintro e w1 ⟨rfl,hE1⟩
  replace bR:=bR.ext hE1
  have hF1:=hE0.trans hE1
  have zr0 : w1.cell? ⟨w.heap.size+1+1,0,none⟩=some (.slice none 0 0):=bR.cell 0
  have zr1 : w1.cell? ⟨w.heap.size+1+1,1,none⟩=some (.int .i64 0):=bR.cell 1
  have zf0:=bR.frozen 0
  have zf1:=bR.frozen 1
  clear bM bP bR
  go_wp2
  rw [hres.out]
  refine bodyPost_ret (v := .tuple #[.agg #[.slice none 0 0,.int .i64 0],.int .u8 0,.int .i64 err]) (by simp [results,Tryz.f21,go_sem,zr0,zr1]) rfl (RetMW.none ((hF1.setCell (by simp;omega) _).setCell (by simp;omega) _))
end Go.Proofs.YtnplphcnagooeaaGreatDoor

/- Contracts: monitor.Store. (printed by gen/mon35j.py) -/
namespace Go.Proofs.YtnplphcnagooeaaGreatDoor
set_option maxRecDepth 100000
open Go.RowKit
set_option maxRecDepth 100000 in
set_option maxHeartbeats 6400000 in
theorem monitor_Store {m : Mon} {sa ss sr u : Value} {wS : World} {l : List Cell} (pa po pt : Int) (hA : Als wS sa m.mem.al) (hn : i64B m.mem.next) (hK : Kts wS ss m.stks) (hR : Nts wS sr m.run) (hl : Cls wS u l) :
  Calls Tryz.prog 11 #[.agg #[sa,.int .i64 m.mem.next,ss,sr,.int .i64 m.tag,.int .i64 m.call],.agg #[.int .i64 pa,.int .i64 po,.int .i64 pt],u] wS (RetF wS (fun v => .tuple #[v,.int .u8 (storeM m ⟨pa,po,pt⟩ l).2.1,.int .i64 (storeM m ⟨pa,po,pt⟩ l).2.2]) (storeM m ⟨pa,po,pt⟩ l).1):=by
 obtain ⟨lla,llc,rfl,hlc,hlm,-⟩:=hl.form
 unfold maxLen at hlm
 obtain ⟨aa,ac,rfl,hac,hacm,-⟩:=hA.form
 obtain ⟨ka,kc,rfl,hkc,hkcm,-⟩:=hK.form
 obtain ⟨ra,rc,rfl,hrc,hrcm,-⟩:=hR.form
 unfold maxLen at hacm hkcm hrcm
 have hE0 : Ext wS (World.alloc (World.alloc (World.alloc wS (.cells #[.slice aa m.mem.al.length ac,.int .i64 m.mem.next,.slice ka m.stks.length kc,.slice ra m.run.length rc,.int .i64 m.tag,.int .i64 m.call] 28)) (.cells #[.int .i64 pa,.int .i64 po,.int .i64 pt] 30)) (.cells #[.slice none 0 0,.int .i64 0,.slice none 0 0,.slice none 0 0,.int .i64 0,.int .i64 0] 28)):=by repeat (first | exact Ext.refl _ | refine Ext.alloc ?_ _)
 have bM : Box (World.alloc (World.alloc (World.alloc wS (.cells #[.slice aa m.mem.al.length ac,.int .i64 m.mem.next,.slice ka m.stks.length kc,.slice ra m.run.length rc,.int .i64 m.tag,.int .i64 m.call] 28)) (.cells #[.int .i64 pa,.int .i64 po,.int .i64 pt] 30)) (.cells #[.slice none 0 0,.int .i64 0,.slice none 0 0,.slice none 0 0,.int .i64 0,.int .i64 0] 28)) (wS.heap.size) 28 #[.slice aa m.mem.al.length ac,.int .i64 m.mem.next,.slice ka m.stks.length kc,.slice ra m.run.length rc,.int .i64 m.tag,.int .i64 m.call]:=(by
  have h:=Box.new wS 28 #[.slice aa m.mem.al.length ac,.int .i64 m.mem.next,.slice ka m.stks.length kc,.slice ra m.run.length rc,.int .i64 m.tag,.int .i64 m.call]
  replace h:=Box.ext h ((Ext.refl _).alloc (.cells #[.int .i64 pa,.int .i64 po,.int .i64 pt] 30))
  replace h:=Box.ext h ((Ext.refl _).alloc (.cells #[.slice none 0 0,.int .i64 0,.slice none 0 0,.slice none 0 0,.int .i64 0,.int .i64 0] 28))
  exact h)
 have bP : Box (World.alloc (World.alloc (World.alloc wS (.cells #[.slice aa m.mem.al.length ac,.int .i64 m.mem.next,.slice ka m.stks.length kc,.slice ra m.run.length rc,.int .i64 m.tag,.int .i64 m.call] 28)) (.cells #[.int .i64 pa,.int .i64 po,.int .i64 pt] 30)) (.cells #[.slice none 0 0,.int .i64 0,.slice none 0 0,.slice none 0 0,.int .i64 0,.int .i64 0] 28)) (wS.heap.size+1) 30 #[.int .i64 pa,.int .i64 po,.int .i64 pt]:=(by
  have h:=Box.new (World.alloc wS (.cells #[.slice aa m.mem.al.length ac,.int .i64 m.mem.next,.slice ka m.stks.length kc,.slice ra m.run.length rc,.int .i64 m.tag,.int .i64 m.call] 28)) 30 #[.int .i64 pa,.int .i64 po,.int .i64 pt]
  simp only [World.size_alloc] at h
  replace h:=Box.ext h ((Ext.refl _).alloc (.cells #[.slice none 0 0,.int .i64 0,.slice none 0 0,.slice none 0 0,.int .i64 0,.int .i64 0] 28))
  exact h)
 have bR : Box (World.alloc (World.alloc (World.alloc wS (.cells #[.slice aa m.mem.al.length ac,.int .i64 m.mem.next,.slice ka m.stks.length kc,.slice ra m.run.length rc,.int .i64 m.tag,.int .i64 m.call] 28)) (.cells #[.int .i64 pa,.int .i64 po,.int .i64 pt] 30)) (.cells #[.slice none 0 0,.int .i64 0,.slice none 0 0,.slice none 0 0,.int .i64 0,.int .i64 0] 28)) (wS.heap.size+2) 28 #[.slice none 0 0,.int .i64 0,.slice none 0 0,.slice none 0 0,.int .i64 0,.int .i64 0]:=(by
  have h:=Box.new (World.alloc (World.alloc wS (.cells #[.slice aa m.mem.al.length ac,.int .i64 m.mem.next,.slice ka m.stks.length kc,.slice ra m.run.length rc,.int .i64 m.tag,.int .i64 m.call] 28)) (.cells #[.int .i64 pa,.int .i64 po,.int .i64 pt] 30)) 28 #[.slice none 0 0,.int .i64 0,.slice none 0 0,.slice none 0 0,.int .i64 0,.int .i64 0]
  simp only [World.size_alloc] at h
  exact h)
 obtain ⟨w0,hw0⟩ : ∃ z,(World.alloc (World.alloc (World.alloc wS (.cells #[.slice aa m.mem.al.length ac,.int .i64 m.mem.next,.slice ka m.stks.length kc,.slice ra m.run.length rc,.int .i64 m.tag,.int .i64 m.call] 28)) (.cells #[.int .i64 pa,.int .i64 po,.int .i64 pt] 30)) (.cells #[.slice none 0 0,.int .i64 0,.slice none 0 0,.slice none 0 0,.int .i64 0,.int .i64 0] 28))=z:=⟨_,rfl⟩
 rw [hw0] at hE0 bM bP bR
 have hs0 : w0.heap.size=wS.heap.size+3:=by rw [← hw0];simp
 replace hs0:=Lib.hid hs0
 replace hA:=Lib.hid hA
 replace hK:=Lib.hid hK
 replace hR:=Lib.hid hR
 replace hn:=Lib.hid hn
 replace hl:=Lib.hid hl
 go_enter Tryz.func11,Tryz.ntmps11
 obtain ⟨bM_0,bM_1,bM_2,bM_3,bM_4,bM_5,bM_l⟩:=bM.c6
 go_wp2_with fail
 clear bM_0 bM_1 bM_2 bM_3 bM_4 bM_5 bM_l
 refine (mon_Check' (hA.out.ext hE0) hn.out (hK.out.ext hE0) (hR.out.ext hE0)).mono ?_
 rintro e w1 ⟨rfl,hE1⟩
 replace bM:=bM.ext hE1
 replace bP:=bP.ext hE1
 replace bR:=bR.ext hE1
 have hF1:=Ext.trans hE0 hE1
 clear hw0
 cases hok : okMon m
 ·skip
  rw [monErr_not hok]
  have hres:=Lib.hid (storeM_bad (p:=⟨pa,po,pt⟩) (l:=l) hok)
  clear hok
  obtain ⟨bM_0,bM_1,bM_2,bM_3,bM_4,bM_5,bM_l⟩:=bM.c6
  have bR_0 : World.cell? w1 ⟨wS.heap.size+2,0,none⟩=some (.slice none 0 0):=bR.cell 0
  have bR_1 : World.cell? w1 ⟨wS.heap.size+2,1,none⟩=some (.int .i64 0):=bR.cell 1
  have bR_2 : World.cell? w1 ⟨wS.heap.size+2,2,none⟩=some (.slice none 0 0):=bR.cell 2
  have bR_3 : World.cell? w1 ⟨wS.heap.size+2,3,none⟩=some (.slice none 0 0):=bR.cell 3
  have bR_4 : World.cell? w1 ⟨wS.heap.size+2,4,none⟩=some (.int .i64 0):=bR.cell 4
  have bR_5 : World.cell? w1 ⟨wS.heap.size+2,5,none⟩=some (.int .i64 0):=bR.cell 5
  have bR_f0 : World.frozen? w1 ⟨wS.heap.size+2,0,none⟩=false:=bR.frozen 0
  have bR_f1 : World.frozen? w1 ⟨wS.heap.size+2,1,none⟩=false:=bR.frozen 1
  have bR_f2 : World.frozen? w1 ⟨wS.heap.size+2,2,none⟩=false:=bR.frozen 2
  have bR_f3 : World.frozen? w1 ⟨wS.heap.size+2,3,none⟩=false:=bR.frozen 3
  have bR_f4 : World.frozen? w1 ⟨wS.heap.size+2,4,none⟩=false:=bR.frozen 4
  have bR_f5 : World.frozen? w1 ⟨wS.heap.size+2,5,none⟩=false:=bR.frozen 5
  have bR_l:=bR.lt
  go_wp2
  rw [hres.out]
  have hXe : ExtBut (fun b=>wS.heap.size≤b∧b < wS.heap.size+3) w1 (World.setCell (World.setCell (World.setCell (World.setCell (World.setCell (World.setCell w1 ⟨wS.heap.size+2,0,none⟩ (.slice none 0 0)) ⟨wS.heap.size+2,1,none⟩ (.int .i64 0)) ⟨wS.heap.size+2,2,none⟩ (.slice none 0 0)) ⟨wS.heap.size+2,3,none⟩ (.slice none 0 0)) ⟨wS.heap.size+2,4,none⟩ (.int .i64 0)) ⟨wS.heap.size+2,5,none⟩ (.int .i64 0)):=by (repeat' with_reducible first | exact ExtBut.refl _ _ | refine ExtBut.dr ?_ | refine ExtBut.sc ?_ ?_ | fail) <;> dsimp only <;> omega
  refine bodyPost_ret (v := .tuple #[.agg #[.slice none 0 0,.int .i64 0,.slice none 0 0,.slice none 0 0,.int .i64 0,.int .i64 0],.int .u8 0,.int .i64 8]) (by simp [results,Tryz.f11,go_sem,bR_0,bR_1,bR_2,bR_3,bR_4,bR_5]) rfl ?_
  have hFe:=ExtBut.ext hF1 hXe (fun b h=>h.1)
  exact ⟨_,rfl,FrMon.zero _ _,hFe⟩
 rw [monErr_of hok]
 have hMok:=MonOk.of hok;have hcl:=Lib.hid hMok.small
 obtain ⟨⟨y,un,er⟩,hsd⟩ : ∃ z,storeR m.mem ⟨pa,po,pt⟩ l=z:=⟨_,rfl⟩
 have hsdh:=Lib.hid hsd;have hokh:=Lib.hid hok;have hMokh:=Lib.hid hMok
 clear hok hMok hsd
 obtain ⟨bM_0,bM_1,bM_2,bM_3,bM_4,bM_5,bM_l⟩:=bM.c6
 obtain ⟨bP_0,bP_1,bP_2,bP_l⟩:=bP.c3
 go_wp2_with fail
 clear bM_0 bM_1 bM_2 bM_3 bM_4 bM_5 bM_l bP_0 bP_1 bP_2 bP_l
 have hXas:=Lib.hid (by have:=bR.lt;omega : wS.heap.size+3≤w1.heap.size)
 refine (cells_StoreAll (m:=m.mem) (l:=l) ⟨pa,po,pt⟩ (hA.out.ext hF1) hn.out (hl.out.ext hF1)).mono ?_
 rintro e w2 ⟨v,rfl,fM,hE2⟩
 replace bM:=bM.ext hE2
 replace bP:=bP.ext hE2
 replace bR:=bR.ext hE2
 have hF2:=Ext.trans hF1 hE2
 rw [hsdh.out] at fM ⊢
 obtain ⟨sy,rfl,hy⟩:=FrM.fs fM
 clear fM
 have hv:=hy.read.form
 obtain ⟨ya,yc,rfl,-⟩:=hv
 dsimp only at hy ⊢
 replace hy:=Lib.hid (Fq.mono hy (S':=fun b=>wS.heap.size+3≤b) (fun b h1 _=>by have:=hXas.out;omega))
 have hXa:=Lib.hid (ExtBut.refl (fun b=>wS.heap.size≤b∧b < wS.heap.size+3) w2)
 go_upto_region 5 with fail
 have szbY:=Lib.hid (by have:=bR.lt;omega : wS.heap.size+3≤w2.heap.size)
 have bY:=Box.new w2 24 #[.slice ya y.al.length yc,.int .i64 y.next]
 have hzb0 : (World.alloc w2 (.cells #[.slice ya y.al.length yc,.int .i64 y.next] 24)).heap.size=w2.heap.size+1:=by rw [World.size_alloc]
 have hx3 : Ext w2 (World.alloc w2 (.cells #[.slice ya y.al.length yc,.int .i64 y.next] 24)):=(Ext.refl _).alloc _
 obtain ⟨w3b,hw3⟩ : ∃ z,World.alloc w2 (.cells #[.slice ya y.al.length yc,.int .i64 y.next] 24)=z:=⟨_,rfl⟩
 rw [hw3] at bY hx3 hzb0 ⊢
 clear hw3
 replace bM:=bM.ext hx3
 replace bP:=bP.ext hx3
 replace bR:=bR.ext hx3
 replace hXa:=Lib.hid (ExtBut.trans hXa.out (ExtBut.of_ext hx3))
 have hF4:=Ext.trans hF2 hx3
 clear hzb0
 by_cases he : er=0
 rotate_left
 ·skip
  have q1 : (er != 0)=true:=by simpa using he
  have hres:=Lib.hid (storeM_err (p:=⟨pa,po,pt⟩) hokh.out hsdh.out (.inl he))
  clear he
  obtain ⟨bM_0,bM_1,bM_2,bM_3,bM_4,bM_5,bM_l⟩:=bM.c6
  have bR_0 : World.cell? w3b ⟨wS.heap.size+2,0,none⟩=some (.slice none 0 0):=bR.cell 0
  have bR_1 : World.cell? w3b ⟨wS.heap.size+2,1,none⟩=some (.int .i64 0):=bR.cell 1
  have bR_2 : World.cell? w3b ⟨wS.heap.size+2,2,none⟩=some (.slice none 0 0):=bR.cell 2
  have bR_3 : World.cell? w3b ⟨wS.heap.size+2,3,none⟩=some (.slice none 0 0):=bR.cell 3
  have bR_4 : World.cell? w3b ⟨wS.heap.size+2,4,none⟩=some (.int .i64 0):=bR.cell 4
  have bR_5 : World.cell? w3b ⟨wS.heap.size+2,5,none⟩=some (.int .i64 0):=bR.cell 5
  have bR_f0 : World.frozen? w3b ⟨wS.heap.size+2,0,none⟩=false:=bR.frozen 0
  have bR_f1 : World.frozen? w3b ⟨wS.heap.size+2,1,none⟩=false:=bR.frozen 1
  have bR_f2 : World.frozen? w3b ⟨wS.heap.size+2,2,none⟩=false:=bR.frozen 2
  have bR_f3 : World.frozen? w3b ⟨wS.heap.size+2,3,none⟩=false:=bR.frozen 3
  have bR_f4 : World.frozen? w3b ⟨wS.heap.size+2,4,none⟩=false:=bR.frozen 4
  have bR_f5 : World.frozen? w3b ⟨wS.heap.size+2,5,none⟩=false:=bR.frozen 5
  have bR_l:=bR.lt
  go_wp2
  rw [hres.out]
  have hXe : ExtBut (fun b=>wS.heap.size≤b∧b < wS.heap.size+3) w3b (World.setCell (World.setCell (World.setCell (World.setCell (World.setCell (World.setCell w3b ⟨wS.heap.size+2,0,none⟩ (.slice none 0 0)) ⟨wS.heap.size+2,1,none⟩ (.int .i64 0)) ⟨wS.heap.size+2,2,none⟩ (.slice none 0 0)) ⟨wS.heap.size+2,3,none⟩ (.slice none 0 0)) ⟨wS.heap.size+2,4,none⟩ (.int .i64 0)) ⟨wS.heap.size+2,5,none⟩ (.int .i64 0)):=by (repeat' with_reducible first | exact ExtBut.refl _ _ | refine ExtBut.dr ?_ | refine ExtBut.sc ?_ ?_ | fail) <;> dsimp only <;> omega
  refine bodyPost_ret (v := .tuple #[.agg #[.slice none 0 0,.int .i64 0,.slice none 0 0,.slice none 0 0,.int .i64 0,.int .i64 0],.int .u8 un,.int .i64 er]) (by simp [results,Tryz.f11,go_sem,bR_0,bR_1,bR_2,bR_3,bR_4,bR_5]) rfl ?_
  have hFe:=ExtBut.ext hF4 hXe (fun b h=>h.1)
  have hXae:=ExtBut.trans hXa.out hXe
  exact ⟨_,rfl,FrMon.zero _ _,hFe⟩
 subst he
 by_cases hu : un=0
 rotate_left
 ·skip
  have q2 : (un != 0)=true:=by simpa using hu
  have hres:=Lib.hid (storeM_err (p:=⟨pa,po,pt⟩) hokh.out hsdh.out (.inr hu))
  clear hu
  obtain ⟨bM_0,bM_1,bM_2,bM_3,bM_4,bM_5,bM_l⟩:=bM.c6
  have bR_0 : World.cell? w3b ⟨wS.heap.size+2,0,none⟩=some (.slice none 0 0):=bR.cell 0
  have bR_1 : World.cell? w3b ⟨wS.heap.size+2,1,none⟩=some (.int .i64 0):=bR.cell 1
  have bR_2 : World.cell? w3b ⟨wS.heap.size+2,2,none⟩=some (.slice none 0 0):=bR.cell 2
  have bR_3 : World.cell? w3b ⟨wS.heap.size+2,3,none⟩=some (.slice none 0 0):=bR.cell 3
  have bR_4 : World.cell? w3b ⟨wS.heap.size+2,4,none⟩=some (.int .i64 0):=bR.cell 4
  have bR_5 : World.cell? w3b ⟨wS.heap.size+2,5,none⟩=some (.int .i64 0):=bR.cell 5
  have bR_f0 : World.frozen? w3b ⟨wS.heap.size+2,0,none⟩=false:=bR.frozen 0
  have bR_f1 : World.frozen? w3b ⟨wS.heap.size+2,1,none⟩=false:=bR.frozen 1
  have bR_f2 : World.frozen? w3b ⟨wS.heap.size+2,2,none⟩=false:=bR.frozen 2
  have bR_f3 : World.frozen? w3b ⟨wS.heap.size+2,3,none⟩=false:=bR.frozen 3
  have bR_f4 : World.frozen? w3b ⟨wS.heap.size+2,4,none⟩=false:=bR.frozen 4
  have bR_f5 : World.frozen? w3b ⟨wS.heap.size+2,5,none⟩=false:=bR.frozen 5
  have bR_l:=bR.lt
  go_wp2
  rw [hres.out]
  have hXe : ExtBut (fun b=>wS.heap.size≤b∧b < wS.heap.size+3) w3b (World.setCell (World.setCell (World.setCell (World.setCell (World.setCell (World.setCell w3b ⟨wS.heap.size+2,0,none⟩ (.slice none 0 0)) ⟨wS.heap.size+2,1,none⟩ (.int .i64 0)) ⟨wS.heap.size+2,2,none⟩ (.slice none 0 0)) ⟨wS.heap.size+2,3,none⟩ (.slice none 0 0)) ⟨wS.heap.size+2,4,none⟩ (.int .i64 0)) ⟨wS.heap.size+2,5,none⟩ (.int .i64 0)):=by (repeat' with_reducible first | exact ExtBut.refl _ _ | refine ExtBut.dr ?_ | refine ExtBut.sc ?_ ?_ | fail) <;> dsimp only <;> omega
  refine bodyPost_ret (v := .tuple #[.agg #[.slice none 0 0,.int .i64 0,.slice none 0 0,.slice none 0 0,.int .i64 0,.int .i64 0],.int .u8 un,.int .i64 0]) (by simp [results,Tryz.f11,go_sem,bR_0,bR_1,bR_2,bR_3,bR_4,bR_5]) rfl ?_
  have hFe:=ExtBut.ext hF4 hXe (fun b h=>h.1)
  have hXae:=ExtBut.trans hXa.out hXe
  exact ⟨_,rfl,FrMon.zero _ _,hFe⟩
 subst hu
 obtain ⟨i,al,hat,hal,-⟩:=store_ways hsdh.out
 have hil:=(List.getElem?_eq_some_iff.1 hal).1
 have hMok:=hMokh.out
 obtain ⟨st,al',hst,-,hrow⟩:=hMok.stk hil
 obtain ⟨sn,scs⟩:=st
 obtain ⟨⟨⟨xn,xcs⟩,why,e4⟩,hd⟩ : ∃ z,use33 ⟨sn,scs⟩ po (l.length : Int) pt true m.run=z:=⟨_,rfl⟩
 have hi2 : i < m.stks.length:=(List.getElem?_eq_some_iff.1 hst).1
 have hi0 : (0 : Int)≤(i : Int):=by omega
 have hi1 : (i : Int) < (m.stks.length : Int):=by omega
 obtain ⟨kb,ko,ks,rfl,hkb,k0,k1,hks⟩:=hK.out.cell hst
 have hv:=hks.form
 obtain ⟨sa',sc',rfl,-⟩:=hv
 dsimp only at k0 k1
 replace hks:=Lib.hid hks
 have hdh:=Lib.hid hd
 have hres:=Lib.hid (storeM_live (p:=⟨pa,po,pt⟩) hokh.out hsdh.out hat hst hd)
 have hsth:=Lib.hid hst;have hatm:=Lib.hid hat
 clear hat hal hst hrow hd hil hkb hMok
 obtain ⟨bM_0,bM_1,bM_2,bM_3,bM_4,bM_5,bM_l⟩:=bM.c6
 obtain ⟨bP_0,bP_1,bP_2,bP_l⟩:=bP.c3
 go_wp2_with fail
 clear bM_0 bM_1 bM_2 bM_3 bM_4 bM_5 bM_l bP_0 bP_1 bP_2 bP_l
 refine (monitor_at pa hMokh.out (hK.out.ext hF4)).mono ?_
 rintro e w5 ⟨rfl,hE5⟩
 replace bM:=bM.ext hE5
 replace bP:=bP.ext hE5
 replace bR:=bR.ext hE5
 replace bY:=bY.ext hE5
 replace hXa:=Lib.hid (ExtBut.trans hXa.out (ExtBut.of_ext hE5))
 have hF5:=Ext.trans hF4 hE5
 rw [hatm.out]
 dsimp only [ixK]
 obtain ⟨bM_0,bM_1,bM_2,bM_3,bM_4,bM_5,bM_l⟩:=bM.c6
 obtain ⟨bP_0,bP_1,bP_2,bP_l⟩:=bP.c3
 go_upto_region 8 with fail
 clear bM_0 bM_1 bM_2 bM_3 bM_4 bM_5 bM_l bP_0 bP_1 bP_2 bP_l
 have bMc2 : World.cell? w5 ⟨wS.heap.size,2,none⟩=some (.slice (some ⟨kb,ko,none⟩) m.stks.length kc):=bM.cell 2
 have bMc3 : World.cell? w5 ⟨wS.heap.size,3,none⟩=some (.slice ra m.run.length rc):=bM.cell 3
 have bPc1 : World.cell? w5 ⟨wS.heap.size+1,1,none⟩=some (.int .i64 po):=bP.cell 1
 have bPc2 : World.cell? w5 ⟨wS.heap.size+1,2,none⟩=some (.int .i64 pt):=bP.cell 2
 have r0:=Ext.cell hF5 k0;have r1:=Ext.cell hF5 k1
 have hKc:=Lib.hid (hks.out.ext hF5);have hRc:=Lib.hid (hR.out.ext hF5)
 refine wp_region_rel (R:=(BxX w5.drew.heap.size 68 2 (X35 w5.drew.heap.size ⟨xn,xcs⟩))) BxX.refl (fun _ _ _=>BxX.trans X35_bxr) [PrR.eq _ (.pointer (some ⟨wS.heap.size,2,none⟩)),PrR.eq _ (.slice (some ⟨kb,ko,none⟩) m.stks.length kc),PrR.eq _ (.int .i64 (i : Int)),PrR.eq _ (.pointer (some ⟨kb,ko+i * 2,none⟩)),PrR.eq _ (.agg #[.int .i64 sn,.slice sa' scs.length sc']),PrR.eq _ (.pointer (some ⟨wS.heap.size+1,1,none⟩)),PrR.eq _ (.int .i64 po),PrR.eq _ (.slice lla l.length llc),PrR.eq _ (.int .i64 l.length),PrR.eq _ (.pointer (some ⟨wS.heap.size+1,2,none⟩)),PrR.eq _ (.int .i64 pt),PrR.eq _ (.pointer (some ⟨wS.heap.size,3,none⟩)),PrR.eq _ (.slice ra m.run.length rc),(PrRK w5.drew.heap.size ⟨xn,xcs⟩ (fun a' c' => .tuple #[.agg #[.int .i64 xn,.slice a' xcs.length c'],.int .u8 why,.int .i64 e4])),(PrRK w5.drew.heap.size ⟨xn,xcs⟩ (fun a' c' => .tuple #[.agg #[.int .i64 xn,.slice a' xcs.length c'],.int .u8 why,.int .i64 e4])),(PrRK w5.drew.heap.size ⟨xn,xcs⟩ (fun a' c' => .agg #[.int .i64 xn,.slice a' xcs.length c'])),PrR.eq _ (.int .u8 why),PrR.eq _ (.int .i64 e4),(PrR.up (PrRB w5.drew.heap.size 68 2)),(PrRT w5.drew.heap.size ⟨xn,xcs⟩),PrR.eq _ (.int .u8 why),PrR.eq _ (.int .i64 e4)] (by kernel_rfl) (by kernel_rfl) ?_ ?_
 ·refine ⟨?_,?_,?_,?_,?_,?_,?_,?_,?_,?_,?_,?_,?_,?_,?_,?_,?_,?_,?_,?_,?_,?_,trivial⟩
  ·intro a w hE hd ho
   refine .inl ⟨rfl,?_⟩
   intro Kq hKq
   have hF : Ext w5 w:=Ext.trans ((Ext.refl _).drew) (BxX.to_ext hE (Nat.le_refl _))
   have e3 : a.eval (.tmp 3) = .pointer (some ⟨wS.heap.size,0,none⟩):=ho 3 (by kernel_rfl)
   rw [eval_tmp] at e3
   clear bMc2 bMc3 bPc1 bPc2 r0 r1
   clear hd ho
   replace hKq:=Lib.hid hKq
   go_simp
   exact hKq.out _ _ rfl (BxX.refl _)
  ·intro a w hE hd ho
   refine .inl ⟨rfl,?_⟩
   intro Kq hKq
   have hF : Ext w5 w:=Ext.trans ((Ext.refl _).drew) (BxX.to_ext hE (Nat.le_refl _))
   have e45 : a.eval (.tmp 45) = .pointer (some ⟨wS.heap.size,2,none⟩):=hd 0 (by kernel_rfl)
   rw [eval_tmp] at e45
   have bMc2w:=Ext.cell hF bMc2
   clear bMc2 bMc3 bPc1 bPc2 r0 r1
   clear hd ho
   replace hKq:=Lib.hid hKq
   go_simp
   exact hKq.out _ _ rfl (BxX.refl _)
  ·intro a w hE hd ho
   refine .inl ⟨rfl,?_⟩
   intro Kq hKq
   have hF : Ext w5 w:=Ext.trans ((Ext.refl _).drew) (BxX.to_ext hE (Nat.le_refl _))
   have e13 : a.eval (.tmp 13) = .int .i64 (i : Int):=ho 13 (by kernel_rfl)
   rw [eval_tmp] at e13
   clear bMc2 bMc3 bPc1 bPc2 r0 r1
   clear hd ho
   replace hKq:=Lib.hid hKq
   go_simp
   exact hKq.out _ _ rfl (BxX.refl _)
  ·intro a w hE hd ho
   refine .inl ⟨rfl,?_⟩
   intro Kq hKq
   have hF : Ext w5 w:=Ext.trans ((Ext.refl _).drew) (BxX.to_ext hE (Nat.le_refl _))
   have e46 : a.eval (.tmp 46) = .slice (some ⟨kb,ko,none⟩) m.stks.length kc:=hd 1 (by kernel_rfl)
   rw [eval_tmp] at e46
   have e47 : a.eval (.tmp 47) = .int .i64 (i : Int):=hd 2 (by kernel_rfl)
   rw [eval_tmp] at e47
   clear bMc2 bMc3 bPc1 bPc2 r0 r1
   clear hd ho
   replace hKq:=Lib.hid hKq
   go_simp
   exact hKq.out _ _ rfl (BxX.refl _)
  ·intro a w hE hd ho
   refine .inl ⟨rfl,?_⟩
   intro Kq hKq
   have hF : Ext w5 w:=Ext.trans ((Ext.refl _).drew) (BxX.to_ext hE (Nat.le_refl _))
   have e48 : a.eval (.tmp 48) = .pointer (some ⟨kb,ko+i * 2,none⟩):=hd 3 (by kernel_rfl)
   rw [eval_tmp] at e48
   have r0w:=Ext.cell hF r0
   have r1w:=Ext.cell hF r1
   clear bMc2 bMc3 bPc1 bPc2 r0 r1
   clear hd ho
   replace hKq:=Lib.hid hKq
   go_simp
   exact hKq.out _ _ rfl (BxX.refl _)
  ·intro a w hE hd ho
   refine .inl ⟨rfl,?_⟩
   intro Kq hKq
   have hF : Ext w5 w:=Ext.trans ((Ext.refl _).drew) (BxX.to_ext hE (Nat.le_refl _))
   have e4 : a.eval (.tmp 4) = .pointer (some ⟨wS.heap.size+1,0,none⟩):=ho 4 (by kernel_rfl)
   rw [eval_tmp] at e4
   clear bMc2 bMc3 bPc1 bPc2 r0 r1
   clear hd ho
   replace hKq:=Lib.hid hKq
   go_simp
   exact hKq.out _ _ rfl (BxX.refl _)
  ·intro a w hE hd ho
   refine .inl ⟨rfl,?_⟩
   intro Kq hKq
   have hF : Ext w5 w:=Ext.trans ((Ext.refl _).drew) (BxX.to_ext hE (Nat.le_refl _))
   have e50 : a.eval (.tmp 50) = .pointer (some ⟨wS.heap.size+1,1,none⟩):=hd 5 (by kernel_rfl)
   rw [eval_tmp] at e50
   have bPc1w:=Ext.cell hF bPc1
   clear bMc2 bMc3 bPc1 bPc2 r0 r1
   clear hd ho
   replace hKq:=Lib.hid hKq
   go_simp
   exact hKq.out _ _ rfl (BxX.refl _)
  ·intro a w hE hd ho
   refine .inl ⟨rfl,?_⟩
   intro Kq hKq
   have hF : Ext w5 w:=Ext.trans ((Ext.refl _).drew) (BxX.to_ext hE (Nat.le_refl _))
   have e2 : a.eval (.tmp 2) = .slice lla l.length llc:=ho 2 (by kernel_rfl)
   rw [eval_tmp] at e2
   clear bMc2 bMc3 bPc1 bPc2 r0 r1
   clear hd ho
   replace hKq:=Lib.hid hKq
   go_simp
   exact hKq.out _ _ rfl (BxX.refl _)
  ·intro a w hE hd ho
   refine .inl ⟨rfl,?_⟩
   intro Kq hKq
   have hF : Ext w5 w:=Ext.trans ((Ext.refl _).drew) (BxX.to_ext hE (Nat.le_refl _))
   have e52 : a.eval (.tmp 52) = .slice lla l.length llc:=hd 7 (by kernel_rfl)
   rw [eval_tmp] at e52
   clear bMc2 bMc3 bPc1 bPc2 r0 r1
   clear hd ho
   replace hKq:=Lib.hid hKq
   go_simp
   exact hKq.out _ _ rfl (BxX.refl _)
  ·intro a w hE hd ho
   refine .inl ⟨rfl,?_⟩
   intro Kq hKq
   have hF : Ext w5 w:=Ext.trans ((Ext.refl _).drew) (BxX.to_ext hE (Nat.le_refl _))
   have e4 : a.eval (.tmp 4) = .pointer (some ⟨wS.heap.size+1,0,none⟩):=ho 4 (by kernel_rfl)
   rw [eval_tmp] at e4
   clear bMc2 bMc3 bPc1 bPc2 r0 r1
   clear hd ho
   replace hKq:=Lib.hid hKq
   go_simp
   exact hKq.out _ _ rfl (BxX.refl _)
  ·intro a w hE hd ho
   refine .inl ⟨rfl,?_⟩
   intro Kq hKq
   have hF : Ext w5 w:=Ext.trans ((Ext.refl _).drew) (BxX.to_ext hE (Nat.le_refl _))
   have e54 : a.eval (.tmp 54) = .pointer (some ⟨wS.heap.size+1,2,none⟩):=hd 9 (by kernel_rfl)
   rw [eval_tmp] at e54
   have bPc2w:=Ext.cell hF bPc2
   clear bMc2 bMc3 bPc1 bPc2 r0 r1
   clear hd ho
   replace hKq:=Lib.hid hKq
   go_simp
   exact hKq.out _ _ rfl (BxX.refl _)
  ·intro a w hE hd ho
   refine .inl ⟨rfl,?_⟩
   intro Kq hKq
   have hF : Ext w5 w:=Ext.trans ((Ext.refl _).drew) (BxX.to_ext hE (Nat.le_refl _))
   have e3 : a.eval (.tmp 3) = .pointer (some ⟨wS.heap.size,0,none⟩):=ho 3 (by kernel_rfl)
   rw [eval_tmp] at e3
   clear bMc2 bMc3 bPc1 bPc2 r0 r1
   clear hd ho
   replace hKq:=Lib.hid hKq
   go_simp
   exact hKq.out _ _ rfl (BxX.refl _)
  ·intro a w hE hd ho
   refine .inl ⟨rfl,?_⟩
   intro Kq hKq
   have hF : Ext w5 w:=Ext.trans ((Ext.refl _).drew) (BxX.to_ext hE (Nat.le_refl _))
   have e56 : a.eval (.tmp 56) = .pointer (some ⟨wS.heap.size,3,none⟩):=hd 11 (by kernel_rfl)
   rw [eval_tmp] at e56
   have bMc3w:=Ext.cell hF bMc3
   clear bMc2 bMc3 bPc1 bPc2 r0 r1
   clear hd ho
   replace hKq:=Lib.hid hKq
   go_simp
   exact hKq.out _ _ rfl (BxX.refl _)
  ·intro a w hE hd ho
   refine .inl ⟨rfl,?_⟩
   intro Kq hKq
   have hF : Ext w5 w:=Ext.trans ((Ext.refl _).drew) (BxX.to_ext hE (Nat.le_refl _))
   have e49 : a.eval (.tmp 49) = .agg #[.int .i64 sn,.slice sa' scs.length sc']:=hd 4 (by kernel_rfl)
   rw [eval_tmp] at e49
   have e51 : a.eval (.tmp 51) = .int .i64 po:=hd 6 (by kernel_rfl)
   rw [eval_tmp] at e51
   have e53 : a.eval (.tmp 53) = .int .i64 l.length:=hd 8 (by kernel_rfl)
   rw [eval_tmp] at e53
   have e55 : a.eval (.tmp 55) = .int .i64 pt:=hd 10 (by kernel_rfl)
   rw [eval_tmp] at e55
   have e57 : a.eval (.tmp 57) = .slice ra m.run.length rc:=hd 12 (by kernel_rfl)
   rw [eval_tmp] at e57
   clear bMc2 bMc3 bPc1 bPc2 r0 r1
   clear hd ho
   replace hKq:=Lib.hid hKq
   go_simp
   refine (stacks_Write (num:=sn) (a:=po) (n:=(l.length : Int)) pt (hKc.out.ext hF) (hRc.out.ext hF)).mono ?_
   rintro e wz ⟨v1,vs1,rfl,hO1,hZ⟩
   rw [hdh.out] at hO1 ⊢
   dsimp only at hO1 ⊢
   obtain ⟨a1,c1,rfl,-⟩:=hO1.outer.sl.slice_form
   go_simp
   exact hKq.out _ _ ⟨_,_,_,rfl,OwnS.mono hO1 hF.size⟩ (BxX.of_ext hZ)
  ·intro a w hE hd ho
   refine .inl ⟨rfl,?_⟩
   intro Kq hKq
   have hF : Ext w5 w:=Ext.trans ((Ext.refl _).drew) (BxX.to_ext hE (Nat.le_refl _))
   obtain ⟨xa58,xc58,xu58,e58,g58⟩ : ∃ a' c' us,a.eval (.tmp 58) = .tuple #[.agg #[.int .i64 xn,.slice a' xcs.length c'],.int .u8 why,.int .i64 e4]∧OwnS w w5.drew.heap.size (.slice a' xcs.length c') us xcs:=hd 13 (by kernel_rfl)
   rw [eval_tmp] at e58
   clear bMc2 bMc3 bPc1 bPc2 r0 r1
   clear hd ho
   replace hKq:=Lib.hid hKq
   go_simp
   exact hKq.out _ _ ⟨_,_,_,rfl,g58⟩ (BxX.refl _)
  ·intro a w hE hd ho
   refine .inl ⟨rfl,?_⟩
   intro Kq hKq
   have hF : Ext w5 w:=Ext.trans ((Ext.refl _).drew) (BxX.to_ext hE (Nat.le_refl _))
   obtain ⟨xa44,xc44,xu44,e44,g44⟩ : ∃ a' c' us,a.eval (.tmp 44) = .tuple #[.agg #[.int .i64 xn,.slice a' xcs.length c'],.int .u8 why,.int .i64 e4]∧OwnS w w5.drew.heap.size (.slice a' xcs.length c') us xcs:=hd 14 (by kernel_rfl)
   rw [eval_tmp] at e44
   clear bMc2 bMc3 bPc1 bPc2 r0 r1
   clear hd ho
   replace hKq:=Lib.hid hKq
   go_simp
   exact hKq.out _ _ ⟨_,_,_,rfl,g44⟩ (BxX.refl _)
  ·intro a w hE hd ho
   refine .inl ⟨rfl,?_⟩
   intro Kq hKq
   have hF : Ext w5 w:=Ext.trans ((Ext.refl _).drew) (BxX.to_ext hE (Nat.le_refl _))
   obtain ⟨xa44,xc44,xu44,e44,g44⟩ : ∃ a' c' us,a.eval (.tmp 44) = .tuple #[.agg #[.int .i64 xn,.slice a' xcs.length c'],.int .u8 why,.int .i64 e4]∧OwnS w w5.drew.heap.size (.slice a' xcs.length c') us xcs:=hd 14 (by kernel_rfl)
   rw [eval_tmp] at e44
   clear bMc2 bMc3 bPc1 bPc2 r0 r1
   clear hd ho
   replace hKq:=Lib.hid hKq
   go_simp
   exact hKq.out _ _ rfl (BxX.refl _)
  ·intro a w hE hd ho
   refine .inl ⟨rfl,?_⟩
   intro Kq hKq
   have hF : Ext w5 w:=Ext.trans ((Ext.refl _).drew) (BxX.to_ext hE (Nat.le_refl _))
   obtain ⟨xa44,xc44,xu44,e44,g44⟩ : ∃ a' c' us,a.eval (.tmp 44) = .tuple #[.agg #[.int .i64 xn,.slice a' xcs.length c'],.int .u8 why,.int .i64 e4]∧OwnS w w5.drew.heap.size (.slice a' xcs.length c') us xcs:=hd 14 (by kernel_rfl)
   rw [eval_tmp] at e44
   clear bMc2 bMc3 bPc1 bPc2 r0 r1
   clear hd ho
   replace hKq:=Lib.hid hKq
   go_simp
   exact hKq.out _ _ rfl (BxX.refl _)
  ·intro a w hE hd ho
   refine .inl ⟨rfl,?_⟩
   intro Kq hKq
   have hF : Ext w5 w:=Ext.trans ((Ext.refl _).drew) (BxX.to_ext hE (Nat.le_refl _))
   clear bMc2 bMc3 bPc1 bPc2 r0 r1
   clear hd ho
   replace hKq:=Lib.hid hKq
   go_simp
   exact hKq.out _ _ ⟨_,rfl,BxX.size hE,#[.int .i64 0,.slice none 0 0],rfl,Box.new _ _ _⟩ (BxX.of_ext ((Ext.refl _).alloc _))
  ·intro a w hE hd ho
   refine .inl ⟨rfl,?_⟩
   intro Kq hKq
   have hF : Ext w5 w:=Ext.trans ((Ext.refl _).drew) (BxX.to_ext hE (Nat.le_refl _))
   obtain ⟨bq,eq,hNb,vs0,hv0,hbx⟩ : ∃ b,a.eval (.tmp 14) = .pointer (some ⟨b,0,none⟩)∧w5.drew.heap.size≤b∧BoxT 68 2 w b:=hd 18 (by kernel_rfl)
   rw [eval_tmp] at eq
   have hBT : BoxT 68 2 w bq:=⟨vs0,hv0,hbx⟩
   obtain ⟨u0,u1,rfl⟩ : ∃ u0 u1,vs0=#[u0,u1]:=by match vs0,hv0 with | ⟨[u0,u1]⟩,_=>exact ⟨u0,u1,rfl⟩
   have bc0 : World.cell? w ⟨bq,0,none⟩=some u0:=hbx.cell 0
   have bf0:=hbx.frozen 0
   have bc1 : World.cell? w ⟨bq,1,none⟩=some u1:=hbx.cell 1
   have bf1:=hbx.frozen 1
   have hbl:=hbx.lt
   replace hBT:=Lib.hid hBT
   obtain ⟨xa59,xc59,xu59,e59,g59⟩ : ∃ a' c' us,a.eval (.tmp 59) = .agg #[.int .i64 xn,.slice a' xcs.length c']∧OwnS w w5.drew.heap.size (.slice a' xcs.length c') us xcs:=hd 15 (by kernel_rfl)
   rw [eval_tmp] at e59
   clear bMc2 bMc3 bPc1 bPc2 r0 r1
   have eq0:=Lib.hid ((eval_tmp a 14).trans eq)
   clear hd ho
   replace hKq:=Lib.hid hKq
   go_simp
   have hEb : ExtBut (· = bq) w (World.setCell (World.setCell w ⟨bq,0,none⟩ (.int .i64 xn)) ⟨bq,1,none⟩ (.slice xa59 xcs.length xc59)):=(ExtBut.setCell w ⟨bq,0,none⟩ (.int .i64 xn)).trans (ExtBut.setCell (World.setCell w ⟨bq,0,none⟩ (.int .i64 xn)) ⟨bq,1,none⟩ (.slice xa59 xcs.length xc59))
   have hBx : Box (World.setCell (World.setCell w ⟨bq,0,none⟩ (.int .i64 xn)) ⟨bq,1,none⟩ (.slice xa59 xcs.length xc59)) bq 68 #[.int .i64 xn,.slice xa59 xcs.length xc59]:=(hbx.set 0 _).set 1 _
   have hB0 : BxR w5.drew.heap.size 68 2 w (World.setCell w ⟨bq,0,none⟩ (.int .i64 xn)):=BxR.set hBT.out hNb 0 _
   have hB1 : BxR w5.drew.heap.size 68 2 w (World.setCell (World.setCell w ⟨bq,0,none⟩ (.int .i64 xn)) ⟨bq,1,none⟩ (.slice xa59 xcs.length xc59)):=hB0.trans (BxR.set (hB0.boxT hBT.out) hNb 1 _)
   have hOS:=g59.bxr hB1
   have hRR : (BxX w5.drew.heap.size 68 2 (X35 w5.drew.heap.size ⟨xn,xcs⟩)) w (World.setCell (World.setCell w ⟨bq,0,none⟩ (.int .i64 xn)) ⟨bq,1,none⟩ (.slice xa59 xcs.length xc59)):=BxX.but hEb hBT.out hNb rfl hBx ⟨_,_,_,rfl,hOS⟩
   exact hKq.out undef (World.setCell (World.setCell w ⟨bq,0,none⟩ (.int .i64 xn)) ⟨bq,1,none⟩ (.slice xa59 xcs.length xc59)) ⟨bq,_,_,_,eq0.out,hNb,hBx,hOS⟩ hRR
  ·intro a w hE hd ho
   refine .inl ⟨rfl,?_⟩
   intro Kq hKq
   have hF : Ext w5 w:=Ext.trans ((Ext.refl _).drew) (BxX.to_ext hE (Nat.le_refl _))
   have e60 : a.eval (.tmp 60) = .int .u8 why:=hd 16 (by kernel_rfl)
   rw [eval_tmp] at e60
   clear bMc2 bMc3 bPc1 bPc2 r0 r1
   clear hd ho
   replace hKq:=Lib.hid hKq
   go_simp
   exact hKq.out _ _ rfl (BxX.refl _)
  ·intro a w hE hd ho
   refine .inl ⟨rfl,?_⟩
   intro Kq hKq
   have hF : Ext w5 w:=Ext.trans ((Ext.refl _).drew) (BxX.to_ext hE (Nat.le_refl _))
   have e61 : a.eval (.tmp 61) = .int .i64 e4:=hd 17 (by kernel_rfl)
   rw [eval_tmp] at e61
   clear bMc2 bMc3 bPc1 bPc2 r0 r1
   clear hd ho
   replace hKq:=Lib.hid hKq
   go_simp
   exact hKq.out _ _ rfl (BxX.refl _)
 ·intro vals Ac wq hAc hE hv hsv
  have hF : Ext w5 wq:=Ext.trans ((Ext.refl _).drew) (BxX.to_ext hE (Nat.le_refl _))
  obtain ⟨BX,xa,xc,xu,eb,hNb,bX,hOx⟩ : ∃ b a c us,vals 19 = .pointer (some ⟨b,0,none⟩)∧w5.drew.heap.size≤b∧Box wq b 68 #[.int .i64 xn,.slice a xcs.length c]∧OwnS wq w5.drew.heap.size (.slice a xcs.length c) us xcs:=hv 19 (by decide)
  have e1 : vals 18 = .pointer (some ⟨BX,0,none⟩):=((hsv 18).trans (hsv 19).symm).trans eb
  have e2 : vals 20 = .int .u8 why:=hv 20 (by decide)
  have e3 : vals 21 = .int .i64 e4:=hv 21 (by decide)
  clear hv hsv hE eb bMc2 bMc3 bPc1 bPc2 r0 r1
  subst hAc
  simp only [putAll]
  go_simp
  try rw [e1,e2,e3]
  clear e1 e2 e3
  have szbX:=Lib.hid (by have h3 : w5.heap.size≤BX:=hNb;have h4:=bR.lt;omega : wS.heap.size+3≤BX)
  have hXs0:=Lib.hid (by have h4:=bR.lt;omega : wS.heap.size+3≤w5.heap.size)
  replace bM:=bM.ext hF
  replace bP:=bP.ext hF
  replace bR:=bR.ext hF
  replace bY:=bY.ext hF
  replace hXa:=Lib.hid (ExtBut.trans hXa.out (ExtBut.of_ext hF))
  have hF6:=Ext.trans hF5 hF
  have hxf:=Lib.hid ((OwnS.fs hOx).mono (S':=fun b=>wS.heap.size+3≤b∧b < wq.heap.size) (fun b h1 hl=>⟨by have h2 : w5.heap.size≤b:=h1;have h3:=hXs0.out;omega,hl⟩))
  clear hNb hOx hKc hRc
  have hXx:=Lib.hid (ExtBut.refl (fun b=>wS.heap.size≤b∧b < wS.heap.size+3) wq)
  have hXl:=Lib.hid bX.lt
  by_cases hw : why=0
  rotate_left
  ·skip
   have q4 : (why != 0)=true:=by simpa using hw
   have hres1:=hres.out;rw [if_neg hw] at hres1;replace hres1:=Lib.hid hres1
   clear hw
   obtain ⟨bM_0,bM_1,bM_2,bM_3,bM_4,bM_5,bM_l⟩:=bM.c6
   have bR_0 : World.cell? wq ⟨wS.heap.size+2,0,none⟩=some (.slice none 0 0):=bR.cell 0
   have bR_1 : World.cell? wq ⟨wS.heap.size+2,1,none⟩=some (.int .i64 0):=bR.cell 1
   have bR_2 : World.cell? wq ⟨wS.heap.size+2,2,none⟩=some (.slice none 0 0):=bR.cell 2
   have bR_3 : World.cell? wq ⟨wS.heap.size+2,3,none⟩=some (.slice none 0 0):=bR.cell 3
   have bR_4 : World.cell? wq ⟨wS.heap.size+2,4,none⟩=some (.int .i64 0):=bR.cell 4
   have bR_5 : World.cell? wq ⟨wS.heap.size+2,5,none⟩=some (.int .i64 0):=bR.cell 5
   have bR_f0 : World.frozen? wq ⟨wS.heap.size+2,0,none⟩=false:=bR.frozen 0
   have bR_f1 : World.frozen? wq ⟨wS.heap.size+2,1,none⟩=false:=bR.frozen 1
   have bR_f2 : World.frozen? wq ⟨wS.heap.size+2,2,none⟩=false:=bR.frozen 2
   have bR_f3 : World.frozen? wq ⟨wS.heap.size+2,3,none⟩=false:=bR.frozen 3
   have bR_f4 : World.frozen? wq ⟨wS.heap.size+2,4,none⟩=false:=bR.frozen 4
   have bR_f5 : World.frozen? wq ⟨wS.heap.size+2,5,none⟩=false:=bR.frozen 5
   have bR_l:=bR.lt
   go_wp2
   rw [hres1.out]
   have hXe : ExtBut (fun b=>wS.heap.size≤b∧b < wS.heap.size+3) wq (World.setCell (World.setCell (World.setCell (World.setCell (World.setCell (World.setCell wq ⟨wS.heap.size+2,0,none⟩ (.slice none 0 0)) ⟨wS.heap.size+2,1,none⟩ (.int .i64 0)) ⟨wS.heap.size+2,2,none⟩ (.slice none 0 0)) ⟨wS.heap.size+2,3,none⟩ (.slice none 0 0)) ⟨wS.heap.size+2,4,none⟩ (.int .i64 0)) ⟨wS.heap.size+2,5,none⟩ (.int .i64 0)):=by (repeat' with_reducible first | exact ExtBut.refl _ _ | refine ExtBut.dr ?_ | refine ExtBut.sc ?_ ?_ | fail) <;> dsimp only <;> omega
   refine bodyPost_ret (v := .tuple #[.agg #[.slice none 0 0,.int .i64 0,.slice none 0 0,.slice none 0 0,.int .i64 0,.int .i64 0],.int .u8 why,.int .i64 0]) (by simp [results,Tryz.f11,go_sem,bR_0,bR_1,bR_2,bR_3,bR_4,bR_5]) rfl ?_
   have hFe:=ExtBut.ext hF6 hXe (fun b h=>h.1)
   have hXae:=ExtBut.trans hXa.out hXe
   have hXxe:=ExtBut.trans hXx.out hXe
   exact ⟨_,rfl,FrMon.zero _ _,hFe⟩
  subst hw
  have hres1:=hres.out;rw [if_pos rfl] at hres1;replace hres1:=Lib.hid hres1;clear hres
  obtain ⟨bM_0,bM_1,bM_2,bM_3,bM_4,bM_5,bM_l⟩:=bM.c6
  go_wp2_with fail
  clear bM_0 bM_1 bM_2 bM_3 bM_4 bM_5 bM_l
  have hXcs:=Lib.hid (by have:=bR.lt;omega : wS.heap.size+3≤wq.heap.size)
  have hXa_hXc:=Lib.hid hXa.out.size
  have hXx_hXc:=Lib.hid hXx.out.size
  refine (monitor_clone (hA.out.ext hF6) (hK.out.ext hF6) (hR.out.ext hF6) hcl.out.1 hcl.out.2.1 hcl.out.2.2).mono ?_
  rintro e w7 ⟨c,ca,ck,cr,vs,rfl,hC,hE7⟩
  replace bM:=bM.ext hE7
  replace bP:=bP.ext hE7
  replace bR:=bR.ext hE7
  replace bY:=bY.ext hE7
  replace bX:=bX.ext hE7
  replace hXa:=Lib.hid (ExtBut.trans hXa.out (ExtBut.of_ext hE7))
  replace hXx:=Lib.hid (ExtBut.trans hXx.out (ExtBut.of_ext hE7))
  have hF7:=Ext.trans hF6 hE7
  have hv:=hC.al.read.form
  obtain ⟨ca,cac,rfl,-⟩:=hv
  have hv:=hC.outer.sl.slice_form
  obtain ⟨ck,ckc,rfl,-⟩:=hv
  have hv:=hC.run.read.form
  obtain ⟨cr,crc,rfl,-⟩:=hv
  replace hC:=Lib.hid hC
  have hXc:=Lib.hid (ExtBut.refl (fun b=>wS.heap.size≤b∧b < wS.heap.size+3) w7)
  have bM_0 : World.cell? w7 ⟨wS.heap.size,0,none⟩=some (.slice aa m.mem.al.length ac):=bM.cell 0
  have bM_1 : World.cell? w7 ⟨wS.heap.size,1,none⟩=some (.int .i64 m.mem.next):=bM.cell 1
  have bM_2 : World.cell? w7 ⟨wS.heap.size,2,none⟩=some (.slice (some ⟨kb,ko,none⟩) m.stks.length kc):=bM.cell 2
  have bM_3 : World.cell? w7 ⟨wS.heap.size,3,none⟩=some (.slice ra m.run.length rc):=bM.cell 3
  have bM_4 : World.cell? w7 ⟨wS.heap.size,4,none⟩=some (.int .i64 m.tag):=bM.cell 4
  have bM_5 : World.cell? w7 ⟨wS.heap.size,5,none⟩=some (.int .i64 m.call):=bM.cell 5
  have bM_f0 : World.frozen? w7 ⟨wS.heap.size,0,none⟩=false:=bM.frozen 0
  have bM_f1 : World.frozen? w7 ⟨wS.heap.size,1,none⟩=false:=bM.frozen 1
  have bM_f2 : World.frozen? w7 ⟨wS.heap.size,2,none⟩=false:=bM.frozen 2
  have bM_f3 : World.frozen? w7 ⟨wS.heap.size,3,none⟩=false:=bM.frozen 3
  have bM_f4 : World.frozen? w7 ⟨wS.heap.size,4,none⟩=false:=bM.frozen 4
  have bM_f5 : World.frozen? w7 ⟨wS.heap.size,5,none⟩=false:=bM.frozen 5
  have bM_l:=bM.lt
  obtain ⟨bY_0,bY_1,bY_l⟩:=bY.c2
  go_upto_region 12 with fail
  clear bM_0 bM_1 bM_2 bM_3 bM_4 bM_5 bM_f0 bM_f1 bM_f2 bM_f3 bM_f4 bM_f5 bM_l bY_0 bY_1 bY_l
  have hS8 : ExtBut (fun b=>wS.heap.size≤b∧b < wS.heap.size+3) w7 (World.setCell (World.setCell (World.setCell (World.setCell (World.setCell (World.setCell w7 ⟨wS.heap.size,0,none⟩ (.slice ca m.mem.al.length cac)) ⟨wS.heap.size,1,none⟩ (.int .i64 m.mem.next)) ⟨wS.heap.size,2,none⟩ (.slice ck m.stks.length ckc)) ⟨wS.heap.size,3,none⟩ (.slice cr m.run.length crc)) ⟨wS.heap.size,4,none⟩ (.int .i64 m.tag)) ⟨wS.heap.size,5,none⟩ (.int .i64 m.call)):=by (repeat' with_reducible first | exact ExtBut.refl _ _ | refine ExtBut.dr ?_ | refine ExtBut.sc ?_ ?_ | fail) <;> dsimp only <;> omega
  replace bM:=(Box.setL (Box.setL (Box.setL (Box.setL (Box.setL (Box.setL bM 0 (.slice ca m.mem.al.length cac)) 1 (.int .i64 m.mem.next)) 2 (.slice ck m.stks.length ckc)) 3 (.slice cr m.run.length crc)) 4 (.int .i64 m.tag)) 5 (.int .i64 m.call))
  simp only [List.set_cons_zero,List.set_cons_succ] at bM
  replace bP:=(Box.other (Box.other (Box.other (Box.other (Box.other (Box.other bP (p:=⟨wS.heap.size,0,none⟩) (by simp) (.slice ca m.mem.al.length cac)) (p:=⟨wS.heap.size,1,none⟩) (by simp) (.int .i64 m.mem.next)) (p:=⟨wS.heap.size,2,none⟩) (by simp) (.slice ck m.stks.length ckc)) (p:=⟨wS.heap.size,3,none⟩) (by simp) (.slice cr m.run.length crc)) (p:=⟨wS.heap.size,4,none⟩) (by simp) (.int .i64 m.tag)) (p:=⟨wS.heap.size,5,none⟩) (by simp) (.int .i64 m.call))
  replace bR:=(Box.other (Box.other (Box.other (Box.other (Box.other (Box.other bR (p:=⟨wS.heap.size,0,none⟩) (by simp) (.slice ca m.mem.al.length cac)) (p:=⟨wS.heap.size,1,none⟩) (by simp) (.int .i64 m.mem.next)) (p:=⟨wS.heap.size,2,none⟩) (by simp) (.slice ck m.stks.length ckc)) (p:=⟨wS.heap.size,3,none⟩) (by simp) (.slice cr m.run.length crc)) (p:=⟨wS.heap.size,4,none⟩) (by simp) (.int .i64 m.tag)) (p:=⟨wS.heap.size,5,none⟩) (by simp) (.int .i64 m.call))
  replace bY:=(Box.other (Box.other (Box.other (Box.other (Box.other (Box.other bY (p:=⟨wS.heap.size,0,none⟩) (by have:=szbY.out;show wS.heap.size≠w2.heap.size;omega) (.slice ca m.mem.al.length cac)) (p:=⟨wS.heap.size,1,none⟩) (by have:=szbY.out;show wS.heap.size≠w2.heap.size;omega) (.int .i64 m.mem.next)) (p:=⟨wS.heap.size,2,none⟩) (by have:=szbY.out;show wS.heap.size≠w2.heap.size;omega) (.slice ck m.stks.length ckc)) (p:=⟨wS.heap.size,3,none⟩) (by have:=szbY.out;show wS.heap.size≠w2.heap.size;omega) (.slice cr m.run.length crc)) (p:=⟨wS.heap.size,4,none⟩) (by have:=szbY.out;show wS.heap.size≠w2.heap.size;omega) (.int .i64 m.tag)) (p:=⟨wS.heap.size,5,none⟩) (by have:=szbY.out;show wS.heap.size≠w2.heap.size;omega) (.int .i64 m.call))
  replace bX:=(Box.other (Box.other (Box.other (Box.other (Box.other (Box.other bX (p:=⟨wS.heap.size,0,none⟩) (by have:=szbX.out;show wS.heap.size≠BX;omega) (.slice ca m.mem.al.length cac)) (p:=⟨wS.heap.size,1,none⟩) (by have:=szbX.out;show wS.heap.size≠BX;omega) (.int .i64 m.mem.next)) (p:=⟨wS.heap.size,2,none⟩) (by have:=szbX.out;show wS.heap.size≠BX;omega) (.slice ck m.stks.length ckc)) (p:=⟨wS.heap.size,3,none⟩) (by have:=szbX.out;show wS.heap.size≠BX;omega) (.slice cr m.run.length crc)) (p:=⟨wS.heap.size,4,none⟩) (by have:=szbX.out;show wS.heap.size≠BX;omega) (.int .i64 m.tag)) (p:=⟨wS.heap.size,5,none⟩) (by have:=szbX.out;show wS.heap.size≠BX;omega) (.int .i64 m.call))
  obtain ⟨w8s,hw8⟩ : ∃ z,(World.setCell (World.setCell (World.setCell (World.setCell (World.setCell (World.setCell w7 ⟨wS.heap.size,0,none⟩ (.slice ca m.mem.al.length cac)) ⟨wS.heap.size,1,none⟩ (.int .i64 m.mem.next)) ⟨wS.heap.size,2,none⟩ (.slice ck m.stks.length ckc)) ⟨wS.heap.size,3,none⟩ (.slice cr m.run.length crc)) ⟨wS.heap.size,4,none⟩ (.int .i64 m.tag)) ⟨wS.heap.size,5,none⟩ (.int .i64 m.call))=z:=⟨_,rfl⟩
  rw [hw8] at hS8 bM bP bR bY bX ⊢
  clear hw8
  have hF8:=ExtBut.ext hF7 hS8 (fun b h=>h.1)
  replace hXa:=Lib.hid (ExtBut.trans hXa.out hS8)
  replace hXx:=Lib.hid (ExtBut.trans hXx.out hS8)
  replace hXc:=Lib.hid (ExtBut.trans hXc.out hS8)
  clear hS8
  obtain ⟨G,sv,e,hG1,hG2,hvs,-,c0,c1,hfr⟩:=OwnK.cell (Cloned.own hC.out) hsth.out
  subst e
  have hhXc1:=hXcs.out;have hhXc2:=hXc.out.size
  have hGn : ¬ ((fun b=>wS.heap.size≤b∧b < wS.heap.size+3)) G:=by intro h;omega
  have d0:=hXc.out.cell c0 hGn
  have d1:=hXc.out.cell c1 hGn
  have hOo:=ExtBut.own (Cloned.own hC.out).outer hXc.out (fun g e=>by have e' : some G=some g:=e;cases e';exact hGn)
  have hfr0:=hOo.frozen (i * 2);have hfr1:=hOo.frozen (i * 2+1)
  have hXlo:=hXl.out;have hXxt:=hXx_hXc.out
  have hGX : G≠BX:=by omega
  have hGW : G < w8s.heap.size:=by omega
  clear hOo;replace hvs:=Lib.hid hvs;replace hGn:=Lib.hid hGn
  clear c0 c1 hfr hhXc2
  have n0a : BX≠wS.heap.size:=by have:=szbX.out;omega
  have n0b : wS.heap.size≠BX:=by have:=szbX.out;omega
  have n1a : G≠wS.heap.size:=by have:=hhXc1;omega
  have n1b : wS.heap.size≠G:=by have:=hhXc1;omega
  have n2a : w2.heap.size≠wS.heap.size:=by have:=szbY.out;omega
  have n2b : wS.heap.size≠w2.heap.size:=by have:=szbY.out;omega
  have bM_0 : World.cell? w8s ⟨wS.heap.size,0,none⟩=some (.slice ca m.mem.al.length cac):=bM.cell 0
  have bM_1 : World.cell? w8s ⟨wS.heap.size,1,none⟩=some (.int .i64 m.mem.next):=bM.cell 1
  have bM_2 : World.cell? w8s ⟨wS.heap.size,2,none⟩=some (.slice (some ⟨G,0,none⟩) m.stks.length ckc):=bM.cell 2
  have bM_3 : World.cell? w8s ⟨wS.heap.size,3,none⟩=some (.slice cr m.run.length crc):=bM.cell 3
  have bM_4 : World.cell? w8s ⟨wS.heap.size,4,none⟩=some (.int .i64 m.tag):=bM.cell 4
  have bM_5 : World.cell? w8s ⟨wS.heap.size,5,none⟩=some (.int .i64 m.call):=bM.cell 5
  have bM_f0 : World.frozen? w8s ⟨wS.heap.size,0,none⟩=false:=bM.frozen 0
  have bM_f1 : World.frozen? w8s ⟨wS.heap.size,1,none⟩=false:=bM.frozen 1
  have bM_f2 : World.frozen? w8s ⟨wS.heap.size,2,none⟩=false:=bM.frozen 2
  have bM_f3 : World.frozen? w8s ⟨wS.heap.size,3,none⟩=false:=bM.frozen 3
  have bM_f4 : World.frozen? w8s ⟨wS.heap.size,4,none⟩=false:=bM.frozen 4
  have bM_f5 : World.frozen? w8s ⟨wS.heap.size,5,none⟩=false:=bM.frozen 5
  have bM_l:=bM.lt
  obtain ⟨bY_0,bY_1,bY_l⟩:=bY.c2
  obtain ⟨bX_0,bX_1,bX_l⟩:=bX.c2
  go_region
  clear bM_0 bM_1 bM_2 bM_3 bM_4 bM_5 bM_f0 bM_f1 bM_f2 bM_f3 bM_f4 bM_f5 bM_l bY_0 bY_1 bY_l bX_0 bX_1 bX_l
  have hS9 : ExtBut (fun b=>wS.heap.size≤b∧b < wS.heap.size+3) w8s (World.setCell (World.setCell w8s ⟨wS.heap.size,0,none⟩ (.slice ya y.al.length yc)) ⟨wS.heap.size,1,none⟩ (.int .i64 y.next)):=by (repeat' with_reducible first | exact ExtBut.refl _ _ | refine ExtBut.dr ?_ | refine ExtBut.sc ?_ ?_ | fail) <;> dsimp only <;> omega
  replace bM:=(Box.setL (Box.setL bM 0 (.slice ya y.al.length yc)) 1 (.int .i64 y.next))
  simp only [List.set_cons_zero,List.set_cons_succ] at bM
  replace bP:=(Box.other (Box.other bP (p:=⟨wS.heap.size,0,none⟩) (by simp) (.slice ya y.al.length yc)) (p:=⟨wS.heap.size,1,none⟩) (by simp) (.int .i64 y.next))
  replace bR:=(Box.other (Box.other bR (p:=⟨wS.heap.size,0,none⟩) (by simp) (.slice ya y.al.length yc)) (p:=⟨wS.heap.size,1,none⟩) (by simp) (.int .i64 y.next))
  replace bY:=(Box.other (Box.other bY (p:=⟨wS.heap.size,0,none⟩) (by have:=szbY.out;show wS.heap.size≠w2.heap.size;omega) (.slice ya y.al.length yc)) (p:=⟨wS.heap.size,1,none⟩) (by have:=szbY.out;show wS.heap.size≠w2.heap.size;omega) (.int .i64 y.next))
  replace bX:=(Box.other (Box.other bX (p:=⟨wS.heap.size,0,none⟩) (by have:=szbX.out;show wS.heap.size≠BX;omega) (.slice ya y.al.length yc)) (p:=⟨wS.heap.size,1,none⟩) (by have:=szbX.out;show wS.heap.size≠BX;omega) (.int .i64 y.next))
  obtain ⟨w9s,hw9⟩ : ∃ z,(World.setCell (World.setCell w8s ⟨wS.heap.size,0,none⟩ (.slice ya y.al.length yc)) ⟨wS.heap.size,1,none⟩ (.int .i64 y.next))=z:=⟨_,rfl⟩
  rw [hw9] at hS9 bM bP bR bY bX ⊢
  clear hw9
  have hF9:=ExtBut.ext hF8 hS9 (fun b h=>h.1)
  replace hXa:=Lib.hid (ExtBut.trans hXa.out hS9)
  replace hXx:=Lib.hid (ExtBut.trans hXx.out hS9)
  replace hXc:=Lib.hid (ExtBut.trans hXc.out hS9)
  clear hS9
  have hXg : ExtBut (fun b=>b=G) w9s (World.drew (World.setCell (World.setCell w9s ⟨G,i * 2,none⟩ (.int .i64 xn)) ⟨G,i * 2+1,none⟩ (.slice xa xcs.length xc))):=by repeat' first | exact ExtBut.refl _ _ | refine ExtBut.sc ?_ rfl | refine ExtBut.dr ?_
  have hOo:=ExtBut.own (Cloned.own hC.out).outer hXc.out (fun g e=>by have e' : some G=some g:=e;cases e';exact hGn.out)
  have hOg:=(hOo.set (i * 2) (.int .i64 xn)).set (i * 2+1) (.slice xa xcs.length xc)
  have hXT:=(hXc.out.mono (S':=fun b=>b < wS.heap.size+3∨b=G) (fun b _ h => .inl h.2)).trans (hXg.mono (fun b _ h => .inr h))
  have hXX:=(hXx.out.mono (S':=fun b=>b < wS.heap.size+3∨b=G) (fun b _ h => .inl h.2)).trans (hXg.mono (fun b _ h => .inr h))
  have hxW:=hxf.out.to (S':=fun b=>wS.heap.size+3≤b) hXX (fun b h1 hl h2=>by have:=h1.1;have:=h1.2;rcases h2 with h2 | h2 <;> omega) (fun b h1 _=>h1.1)
  have hKf:=OwnK.setS (y:=⟨xn,xcs⟩) (Cloned.own hC.out) hi2 hXT (fun b h1 h2 _=>⟨fun h=>by rcases h with h | h <;> omega,by omega⟩) (by omega) hOg hxW
  have hRf:=hC.out.run.to (S':=fun b=>wS.heap.size+3≤b) hXT (fun b h1 _ h2=>by rcases h2 with h2 | h2;omega;have h3:=hC.out.out0 b (by rw [h2];rfl);have h4:=h1.2;omega) (fun b h1 _=>by have:=h1.1;omega)
  have hX9:=(hXa.out.mono (S':=fun b=>b < wS.heap.size+3∨b=G) (fun b _ h => .inl h.2)).trans (hXg.mono (fun b _ h => .inr h))
  have hs9:=hXa_hXc.out
  have hAf:=hy.out.to (S':=fun b=>wS.heap.size+3≤b) hX9 (fun b h1 hl h2=>by rcases h2 with h2 | h2 <;> omega) (fun _ h _=>h)
  clear hX9 hs9
  replace bM:=bM.but hXg (by omega);replace bP:=bP.but hXg (by omega);replace bR:=bR.but hXg (by omega)
  have hFg:=ExtBut.ext hF9 hXg (fun b h=>by have h' : b=G:=h;omega)
  replace hKf:=Lib.hid hKf
  replace hRf:=Lib.hid hRf
  replace hAf:=Lib.hid hAf
  obtain ⟨wE,hwE⟩ : ∃ z,(World.drew (World.setCell (World.setCell w9s ⟨G,i * 2,none⟩ (.int .i64 xn)) ⟨G,i * 2+1,none⟩ (.slice xa xcs.length xc)))=z:=⟨_,rfl⟩
  rw [hwE] at hKf hRf hAf bM bP bR hFg ⊢
  clear hwE hXg hOg hXT hXX hxW hXc hXx hOo hGn d0 d1 hfr0 hfr1 hGW
  have hXz:=Lib.hid (ExtBut.refl (fun b=>wS.heap.size≤b∧b < wS.heap.size+3) wE)
  obtain ⟨bM_0,bM_1,bM_2,bM_3,bM_4,bM_5,bM_l⟩:=bM.c6
  have bR_0 : World.cell? wE ⟨wS.heap.size+2,0,none⟩=some (.slice none 0 0):=bR.cell 0
  have bR_1 : World.cell? wE ⟨wS.heap.size+2,1,none⟩=some (.int .i64 0):=bR.cell 1
  have bR_2 : World.cell? wE ⟨wS.heap.size+2,2,none⟩=some (.slice none 0 0):=bR.cell 2
  have bR_3 : World.cell? wE ⟨wS.heap.size+2,3,none⟩=some (.slice none 0 0):=bR.cell 3
  have bR_4 : World.cell? wE ⟨wS.heap.size+2,4,none⟩=some (.int .i64 0):=bR.cell 4
  have bR_5 : World.cell? wE ⟨wS.heap.size+2,5,none⟩=some (.int .i64 0):=bR.cell 5
  have bR_f0 : World.frozen? wE ⟨wS.heap.size+2,0,none⟩=false:=bR.frozen 0
  have bR_f1 : World.frozen? wE ⟨wS.heap.size+2,1,none⟩=false:=bR.frozen 1
  have bR_f2 : World.frozen? wE ⟨wS.heap.size+2,2,none⟩=false:=bR.frozen 2
  have bR_f3 : World.frozen? wE ⟨wS.heap.size+2,3,none⟩=false:=bR.frozen 3
  have bR_f4 : World.frozen? wE ⟨wS.heap.size+2,4,none⟩=false:=bR.frozen 4
  have bR_f5 : World.frozen? wE ⟨wS.heap.size+2,5,none⟩=false:=bR.frozen 5
  have bR_l:=bR.lt
  go_wp2
  rw [hres1.out]
  have hXe : ExtBut (fun b=>wS.heap.size≤b∧b < wS.heap.size+3) wE (World.setCell (World.setCell (World.setCell (World.setCell (World.setCell (World.setCell wE ⟨wS.heap.size+2,0,none⟩ (.slice ya y.al.length yc)) ⟨wS.heap.size+2,1,none⟩ (.int .i64 y.next)) ⟨wS.heap.size+2,2,none⟩ (.slice (some ⟨G,0,none⟩) m.stks.length ckc)) ⟨wS.heap.size+2,3,none⟩ (.slice cr m.run.length crc)) ⟨wS.heap.size+2,4,none⟩ (.int .i64 m.tag)) ⟨wS.heap.size+2,5,none⟩ (.int .i64 m.call)):=by (repeat' with_reducible first | exact ExtBut.refl _ _ | refine ExtBut.dr ?_ | refine ExtBut.sc ?_ ?_ | fail) <;> dsimp only <;> omega
  refine bodyPost_ret (v := .tuple #[.agg #[.slice ya y.al.length yc,.int .i64 y.next,.slice (some ⟨G,0,none⟩) m.stks.length ckc,.slice cr m.run.length crc,.int .i64 m.tag,.int .i64 m.call],.int .u8 0,.int .i64 0]) (by simp [results,Tryz.f11,go_sem,bR_0,bR_1,bR_2,bR_3,bR_4,bR_5]) rfl ?_
  have hFe:=ExtBut.ext hFg hXe (fun b h=>h.1)
  have hXze:=ExtBut.trans hXz.out hXe
  have hKt:=(hKf.out.to (S':=fun b=>wS.heap.size≤b) hXze (fun b h1 _ h2=>by omega) (fun b h1 _=>by omega))
  exact ⟨_,rfl,FrMon.of_fs (m:=⟨y,m.stks.set i ⟨xn,xcs⟩,m.run,m.tag,m.call⟩) (hAf.out.to (S':=fun b=>wS.heap.size≤b) hXze (fun b h1 _ h2=>by omega) (fun b h1 _=>by omega)) hKt (hRf.out.to (S':=fun b=>wS.heap.size≤b) hXze (fun b h1 _ h2=>by omega) (fun b h1 _=>by omega)),hFe⟩
end Go.Proofs.YtnplphcnagooeaaGreatDoor
