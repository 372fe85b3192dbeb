/- Several texts in one: AccC, AccD, ItemsP, GraB, GraC, GraD. -/
import Derived.Test.YtnplphcnagooeaaGreatDoorQ03
import Derived.LoopIn
import Derived.Test.YtnplphcnagooeaaGreatDoorQ02
import Derived.Deep.RegionHeld3
/- Contracts: the reference's Used. (printed by gen/accc.py) -/
namespace Go.Proofs.YtnplphcnagooeaaGreatDoor
set_option maxRecDepth 100000
open Go.RowKit
theorem filter_yes (n : List Item) : n.filter (fun _=>true)=n:=List.filter_eq_self.2 (fun _ _=>rfl)
theorem filter_no (n : List Item) : n.filter (fun x => !((fun _=>true) x))=[]:=List.filter_eq_nil_iff.2 (by simp)
set_option maxHeartbeats 3200000 in
theorem ref29_UsedO {l : List Item} {v : Value} {w : World} (tag : Int) (write : Bool) (hl : Its w v l) (hl6 : l.length≤600) :
  Calls Tryz.prog 153 #[v,.int .i64 tag,.bool write] w (RetUO3 w (usedL l tag write) (usedG l tag write) (usedW l tag write)):=by
 have hL:=Lib.hid hl
 obtain ⟨a,cp,rfl,hlc,hcm,-⟩:=hl.form
 unfold maxLen at hcm
 clear hl
 cases hf : findAt l tag write with
 | none =>
  have e1 : Hid (usedL l tag write=[]∧usedG l tag write=[]∧usedW l tag write=1):=Hid.mk (by simp [usedL,usedG,usedW,hf])
  have hf:=Lib.hid hf
  go_enter Tryz.func153,Tryz.ntmps153
  go_wp2_with fail
  refine (ref28_At tag write hL.out).mono ?_
  rintro e w1 ⟨rfl,rfl⟩
  rw [hf.out,show idxOf none = -1 from rfl]
  go_wp2
  go_ret3
  rw [e1.out.1,e1.out.2.1,e1.out.2.2]
  exact ⟨_,_,rfl,Own.nil _ _ _ _,Own.nil _ _ _ _,(fun g h=>by cases h),Ext.refl _⟩
 | some i =>
  obtain ⟨x,hx,-,-⟩:=findAt_is hf
  have hil : i < l.length:=(List.getElem?_eq_some_iff.1 hx).1
  have e1 : Hid (usedL l tag write=useLeft l i write∧usedG l tag write=useGone l i write∧usedW l tag write=0):=Hid.mk (by simp [usedL,usedG,usedW,hf])
  obtain ⟨m,hm⟩ : ∃ m,l.take (i+1)=m:=⟨_,rfl⟩
  obtain ⟨n,hn⟩ : ∃ n,l.drop (i+1)=n:=⟨_,rfl⟩
  have him : i < m.length:=by rw [← hm];simp;omega
  have hm6 : m.length≤600:=by rw [← hm];simp;omega
  have hnl : Hid (i+1+n.length=l.length):=Hid.mk (by rw [← hn];simp;omega)
  have hn6 : n.length≤600:=by rw [← hn];simp;omega
  have hmx : Hid (m[i]? = some x):=Hid.mk (by rw [← hm];exact take_get hx)
  have hm':=Lib.hid hm;have hn':=Lib.hid hn;have hf':=Lib.hid hf
  have hml : Hid ((l.take (i+1)).length=m.length):=Hid.mk (by rw [hm])
  clear hm hn hf hx
  have hm:=hm';have hn:=hn';have hf:=hf'
  clear hm' hn' hf'
  have d0 : decide ((i : Int) < 0)=false:=decide_eq_false (by omega)
  have hs1:=slice_upto_Stack a l cp ((i : Int)+1) (i+1) (by simp) (by omega)
  obtain ⟨ty,zz,hty',hz',hi3',hz3',hby'⟩:=Item.infoE
  have hty:=Lib.hid hty';have hz:=Lib.hid hz';have hi3:=Lib.hid hi3';have hz3:=Lib.hid hz3';have hby:=Lib.hid hby'
  clear hty' hz' hi3' hz3' hby'
  cases write
  ·have hlf : Hid (useLeft l i false=m ++ n.filter (fun x => !(x.p == 1))):=Hid.mk (by simp only [useLeft,hm.out,hn.out];rfl)
   have hgn : Hid (useGone l i false=n.filter (fun x=>x.p == 1)):=Hid.mk (by simp [useGone,hn.out])
   go_enter Tryz.func153,Tryz.ntmps153
   go_wp2_with fail
   refine (ref28_At tag _ hL.out).mono ?_
   rintro e w1 ⟨rfl,rfl⟩
   rw [hf.out,show idxOf (some i)=(i : Int) from rfl]
   go_wp2_with fail
   refine (ref28_Twin (l:=l.take (i+1)) (hL.out.take (i+1) (by omega)) (by simp;omega)).mono ?_
   rintro e w1 ⟨vl,rfl,hvl,hE1⟩
   rw [hm.out] at hvl
   obtain ⟨g1,c1,rfl,hc1,hc2,-⟩:=hvl.form (by omega)
   obtain ⟨b,off,hb',hb,d0,-,-⟩:=Its.cell (l:=m) hvl.sl hmx.out
   cases hb'
   rw [Nat.zero_add] at d0
   have hg1 : Hid (g1 < w1.heap.size):=Hid.mk (hvl.lt rfl).2
   have hI0 : Hid (UseInv (fun x=>x.p == 1) w w1 w1.heap.size m n 0 _ (.slice none 0 0) w1):=Hid.mk (UseInv.start hE1 hvl (fun g hg=>(hvl.lt hg).2))
   clear hvl
   go_wp2
   go_loopw [10,11,12] (fun lf gn iv wr => ∃ j k : Nat,j=i+1+k∧k≤n.length∧iv = .int .i64 j∧UseInv (fun x=>x.p == 1) w w1 w1.heap.size m n k lf gn wr) (fun _ _ iv _=>l.length - (intOf iv).toNat)
   case atStart=>exact ⟨i+1,0,rfl,Nat.zero_le _,by go_num,hI0.out⟩
   case round =>
    obtain ⟨j,k,hj,hk,rfl,hI⟩:=hrel
    by_cases hlt : k < n.length
    ·obtain ⟨y,hy⟩ : ∃ y,n[k]? = some y:=⟨n[k],by simp [hlt]⟩
     have hly : l[j]? = some y:=by rw [← hn.out,List.getElem?_drop] at hy;rw [hj];exact hy
     obtain ⟨b,off,rfl,hb,d0,d1,d2⟩:=(hL.out.ext hI.2.2.1).cell hly
     have hY:=Lib.hid hy
     have hI':=Lib.hid hI
     have hjl : j < l.length:=by have:=hnl.out;omega
     have hj':=Lib.hid hj
     clear hj
     clear hy hI hly
     have hE : Ext wr (wr.alloc (.cells #[.int .u8 y.p,.int .i64 y.t,.int .i64 y.c] 70)):=(Ext.refl wr).alloc _
     have hx : Sl (wr.alloc (.cells #[.int .u8 y.p,.int .i64 y.t,.int .i64 y.c] 70)) 3 (.slice (some ⟨wr.heap.size,0,none⟩) 1 1) 1 y.row:=(Own.lit (B:=0) (e:=70) (k:=3) wr #[.int .u8 y.p,.int .i64 y.t,.int .i64 y.c] 1 (Nat.zero_le _) (by simp [maxLen]) rfl).sl
     have hl1 : (m ++ (n.take k).filter (fun x => !(((fun x=>x.p == 1) : Item→Bool) x))).length≤1200:=by
      have:=List.length_filter_le (fun x => !(((fun x=>x.p == 1) : Item→Bool) x)) (n.take k)
      have hm6' : (m).length≤600:=by simpa using hm6
      rw [List.length_append];rw [List.length_take] at this;omega
     have hl2 : ((n.take k).filter (fun x=>x.p == 1)).length≤600:=by
      have:=List.length_filter_le (fun x=>x.p == 1) (n.take k)
      rw [List.length_take] at this;omega
     have hEs:=Lib.hid (hI'.out.2.2.1.trans hE).size
     have hE:=Lib.hid hE;have hx:=Lib.hid hx;have hl1:=Lib.hid hl1;have hl2:=Lib.hid hl2
     cases hp : y.p == 1
     ·skip
      go_wp2_with (at_builtin;refine Hid.out ?_)
      refine Hid.mk ?_
      refine wpList_append_any rfl _ _ 72 72 rfl rfl rfl Tryz.underlying72 Tryz.underlying72 hty.out hz.out hi3.out hz3.out (hI'.out.1.1.ext hE.out) hx.out (by simp [Item.row,Value.oneCell']) (Nat.le_trans (Nat.add_le_add_right hl1.out 1) (by simp [maxLen])) (by rw [hby.out];exact Nat.le_trans (Nat.mul_le_mul_right 24 (Nat.add_le_add_right hl1.out 1)) (by decide)) hEs.out ?_
      intro v' w' hO' hK' hb' _
      have hN:=Lib.hid (hI'.out.left hY.out hp hE.out hO' hK' hb')
      clear hO' hK' hb'
      go_wp2
      go_roundw
      case rel=>exact ⟨j+1,k+1,by have:=hj'.out;omega,by omega,by go_num,hN.out⟩
      case measure=>simp [intOf];omega
     ·skip
      go_wp2_with (at_builtin;refine Hid.out ?_)
      refine Hid.mk ?_
      refine wpList_append_any rfl _ _ 71 71 rfl rfl rfl Tryz.underlying71 Tryz.underlying71 hty.out hz.out hi3.out hz3.out (hI'.out.1.2.ext hE.out) hx.out (by simp [Item.row,Value.oneCell']) (Nat.le_trans (Nat.add_le_add_right hl2.out 1) (by simp [maxLen])) (by rw [hby.out];exact Nat.le_trans (Nat.mul_le_mul_right 24 (Nat.add_le_add_right hl2.out 1)) (by decide)) hEs.out ?_
      intro v' w' hO' hK' hb' _
      have hN:=Lib.hid (hI'.out.gone hY.out hp hE.out hO' hK' hb')
      clear hO' hK' hb'
      go_wp2
      go_roundw
      case rel=>exact ⟨j+1,k+1,by have:=hj'.out;omega,by omega,by go_num,hN.out⟩
      case measure=>simp [intOf];omega
    ·have hkl : k=n.length:=by omega
     subst hkl
     have hjl : j=l.length:=by have:=hnl.out;omega
     clear hj
     subst hjl
     obtain ⟨⟨h1,h2⟩,⟨-,-,h5⟩,hE,_⟩:=hI
     rw [List.take_length] at h1 h2
     have h1:=Lib.hid h1;have h2:=Lib.hid h2;have h5o:=Lib.hid h5;clear h5
     go_wp2
     go_ret3
     rw [e1.out.1,e1.out.2.1,e1.out.2.2,hlf.out,hgn.out]
     exact ⟨_,_,rfl,h1.out,h2.out,h5o.out,hE⟩
  ·have hgn : Hid (useGone l i true=n.filter (fun _=>true)):=Hid.mk (by rw [filter_yes];simp [useGone,hn.out])
   cases hp : x.p == 2
   ·have hlf : Hid (useLeft l i true=m ++ n.filter (fun x => !((fun _=>true) x))):=Hid.mk (by rw [filter_no,List.append_nil];simp [useLeft,hm.out,actAt,hmx.out];intro e;simp [e] at hp)
    go_enter Tryz.func153,Tryz.ntmps153
    go_wp2_with fail
    refine (ref28_At tag _ hL.out).mono ?_
    rintro e w1 ⟨rfl,rfl⟩
    rw [hf.out,show idxOf (some i)=(i : Int) from rfl]
    go_wp2_with fail
    refine (ref28_Twin (l:=l.take (i+1)) (hL.out.take (i+1) (by omega)) (by simp;omega)).mono ?_
    rintro e w1 ⟨vl,rfl,hvl,hE1⟩
    rw [hm.out] at hvl
    obtain ⟨g1,c1,rfl,hc1,hc2,-⟩:=hvl.form (by omega)
    obtain ⟨b,off,hb',hb,d0,-,-⟩:=Its.cell (l:=m) hvl.sl hmx.out
    cases hb'
    rw [Nat.zero_add] at d0
    have hg1 : Hid (g1 < w1.heap.size):=Hid.mk (hvl.lt rfl).2
    have hI0 : Hid (UseInv (fun _=>true) w w1 w1.heap.size m n 0 _ (.slice none 0 0) w1):=Hid.mk (UseInv.start hE1 hvl (fun g hg=>(hvl.lt hg).2))
    clear hvl
    go_wp2
    go_loopw [10,11,12] (fun lf gn iv wr => ∃ j k : Nat,j=i+1+k∧k≤n.length∧iv = .int .i64 j∧UseInv (fun _=>true) w w1 w1.heap.size m n k lf gn wr) (fun _ _ iv _=>l.length - (intOf iv).toNat)
    case atStart=>exact ⟨i+1,0,rfl,Nat.zero_le _,by go_num,hI0.out⟩
    case round =>
     obtain ⟨j,k,hj,hk,rfl,hI⟩:=hrel
     by_cases hlt : k < n.length
     ·obtain ⟨y,hy⟩ : ∃ y,n[k]? = some y:=⟨n[k],by simp [hlt]⟩
      have hly : l[j]? = some y:=by rw [← hn.out,List.getElem?_drop] at hy;rw [hj];exact hy
      obtain ⟨b,off,rfl,hb,d0,d1,d2⟩:=(hL.out.ext hI.2.2.1).cell hly
      have hY:=Lib.hid hy
      have hI':=Lib.hid hI
      have hjl : j < l.length:=by have:=hnl.out;omega
      have hj':=Lib.hid hj
      clear hj
      clear hy hI hly
      have hE : Ext wr (wr.alloc (.cells #[.int .u8 y.p,.int .i64 y.t,.int .i64 y.c] 70)):=(Ext.refl wr).alloc _
      have hx : Sl (wr.alloc (.cells #[.int .u8 y.p,.int .i64 y.t,.int .i64 y.c] 70)) 3 (.slice (some ⟨wr.heap.size,0,none⟩) 1 1) 1 y.row:=(Own.lit (B:=0) (e:=70) (k:=3) wr #[.int .u8 y.p,.int .i64 y.t,.int .i64 y.c] 1 (Nat.zero_le _) (by simp [maxLen]) rfl).sl
      have hl1 : (m ++ (n.take k).filter (fun x => !(((fun _=>true) : Item→Bool) x))).length≤1200:=by
       have:=List.length_filter_le (fun x => !(((fun _=>true) : Item→Bool) x)) (n.take k)
       have hm6' : (m).length≤600:=by simpa using hm6
       rw [List.length_append];rw [List.length_take] at this;omega
      have hl2 : ((n.take k).filter (fun _=>true)).length≤600:=by
       have:=List.length_filter_le (fun _=>true) (n.take k)
       rw [List.length_take] at this;omega
      have hEs:=Lib.hid (hI'.out.2.2.1.trans hE).size
      have hE:=Lib.hid hE;have hx:=Lib.hid hx;have hl1:=Lib.hid hl1;have hl2:=Lib.hid hl2
      go_wp2_with (at_builtin;refine Hid.out ?_)
      refine Hid.mk ?_
      refine wpList_append_any rfl _ _ 71 71 rfl rfl rfl Tryz.underlying71 Tryz.underlying71 hty.out hz.out hi3.out hz3.out (hI'.out.1.2.ext hE.out) hx.out (by simp [Item.row,Value.oneCell']) (Nat.le_trans (Nat.add_le_add_right hl2.out 1) (by simp [maxLen])) (by rw [hby.out];exact Nat.le_trans (Nat.mul_le_mul_right 24 (Nat.add_le_add_right hl2.out 1)) (by decide)) hEs.out ?_
      intro v' w' hO' hK' hb' _
      have hN:=Lib.hid (hI'.out.gone hY.out rfl hE.out hO' hK' hb')
      clear hO' hK' hb'
      go_wp2
      go_roundw
      case rel=>exact ⟨j+1,k+1,by have:=hj'.out;omega,by omega,by go_num,hN.out⟩
      case measure=>simp [intOf];omega
     ·have hkl : k=n.length:=by omega
      subst hkl
      have hjl : j=l.length:=by have:=hnl.out;omega
      clear hj
      subst hjl
      obtain ⟨⟨h1,h2⟩,⟨-,-,h5⟩,hE,_⟩:=hI
      rw [List.take_length] at h1 h2
      have h1:=Lib.hid h1;have h2:=Lib.hid h2;have h5o:=Lib.hid h5;clear h5
      go_wp2
      go_ret3
      rw [e1.out.1,e1.out.2.1,e1.out.2.2,hlf.out,hgn.out]
      exact ⟨_,_,rfl,h1.out,h2.out,h5o.out,hE⟩
   ·have hlf : Hid (useLeft l i true=(m.set i ⟨1,x.t,x.c⟩) ++ n.filter (fun x => !((fun _=>true) x))):=Hid.mk (by rw [filter_no,List.append_nil];simp [useLeft,hm.out,actAt,hmx.out];intro e;exact absurd (by simpa using hp) e)
    go_enter Tryz.func153,Tryz.ntmps153
    go_wp2_with fail
    refine (ref28_At tag _ hL.out).mono ?_
    rintro e w1 ⟨rfl,rfl⟩
    rw [hf.out,show idxOf (some i)=(i : Int) from rfl]
    go_wp2_with fail
    refine (ref28_Twin (l:=l.take (i+1)) (hL.out.take (i+1) (by omega)) (by simp;omega)).mono ?_
    rintro e w1 ⟨vl,rfl,hvl,hE1⟩
    rw [hm.out] at hvl
    obtain ⟨g1,c1,rfl,hc1,hc2,-⟩:=hvl.form (by omega)
    obtain ⟨b,off,hb',hb,d0,-,-⟩:=Its.cell (l:=m) hvl.sl hmx.out
    cases hb'
    rw [Nat.zero_add] at d0
    have hg1 : Hid (g1 < w1.heap.size):=Hid.mk (hvl.lt rfl).2
    have hfr:=hvl.frozen (i * 3)
    have hS:=hvl.set (i * 3) (.int .u8 1)
    rw [rows_setp 1 m i x hmx.out] at hS
    have hK:=hvl.setKeeps (B':=w.heap.size) (Nat.le_refl _) (i * 3) (.int .u8 1)
    have hS' : Own (w1.setCell ⟨g1,i * 3,none⟩ (.int .u8 1)) w.heap.size 70 3 (.slice (some ⟨g1,0,none⟩) m.length c1) (m.set i ⟨1,x.t,x.c⟩).length ((m.set i ⟨1,x.t,x.c⟩).flatMap Item.row):=by rw [List.length_set];exact hS
    obtain ⟨wz,hwz⟩ : ∃ wz,w1.setCell ⟨g1,i * 3,none⟩ (.int .u8 1)=wz:=⟨_,rfl⟩
    rw [hwz] at hS' hK
    have hI0 : Hid (UseInv (fun _=>true) w wz wz.heap.size (m.set i ⟨1,x.t,x.c⟩) n 0 (.slice (some ⟨g1,0,none⟩) m.length c1) (.slice none 0 0) wz):=Hid.mk (UseInv.start (Below.trans hE1 hK.below) hS' (fun g hg=>(hS'.lt hg).2))
    clear hvl hS hS' hK
    go_wp2
    go_loopw [10,11,12] (fun lf gn iv wr => ∃ j k : Nat,j=i+1+k∧k≤n.length∧iv = .int .i64 j∧UseInv (fun _=>true) w wz wz.heap.size (m.set i ⟨1,x.t,x.c⟩) n k lf gn wr) (fun _ _ iv _=>l.length - (intOf iv).toNat)
    case atStart=>exact ⟨i+1,0,rfl,Nat.zero_le _,by go_num,hI0.out⟩
    case round =>
     obtain ⟨j,k,hj,hk,rfl,hI⟩:=hrel
     by_cases hlt : k < n.length
     ·obtain ⟨y,hy⟩ : ∃ y,n[k]? = some y:=⟨n[k],by simp [hlt]⟩
      have hly : l[j]? = some y:=by rw [← hn.out,List.getElem?_drop] at hy;rw [hj];exact hy
      obtain ⟨b,off,rfl,hb,d0,d1,d2⟩:=(hL.out.ext hI.2.2.1).cell hly
      have hY:=Lib.hid hy
      have hI':=Lib.hid hI
      have hjl : j < l.length:=by have:=hnl.out;omega
      have hj':=Lib.hid hj
      clear hj
      clear hy hI hly
      have hE : Ext wr (wr.alloc (.cells #[.int .u8 y.p,.int .i64 y.t,.int .i64 y.c] 70)):=(Ext.refl wr).alloc _
      have hx : Sl (wr.alloc (.cells #[.int .u8 y.p,.int .i64 y.t,.int .i64 y.c] 70)) 3 (.slice (some ⟨wr.heap.size,0,none⟩) 1 1) 1 y.row:=(Own.lit (B:=0) (e:=70) (k:=3) wr #[.int .u8 y.p,.int .i64 y.t,.int .i64 y.c] 1 (Nat.zero_le _) (by simp [maxLen]) rfl).sl
      have hl1 : ((m.set i ⟨1,x.t,x.c⟩) ++ (n.take k).filter (fun x => !(((fun _=>true) : Item→Bool) x))).length≤1200:=by
       have:=List.length_filter_le (fun x => !(((fun _=>true) : Item→Bool) x)) (n.take k)
       have hm6' : ((m.set i ⟨1,x.t,x.c⟩)).length≤600:=by simpa using hm6
       rw [List.length_append];rw [List.length_take] at this;omega
      have hl2 : ((n.take k).filter (fun _=>true)).length≤600:=by
       have:=List.length_filter_le (fun _=>true) (n.take k)
       rw [List.length_take] at this;omega
      have hEs:=Lib.hid (hI'.out.2.2.1.trans hE).size
      have hE:=Lib.hid hE;have hx:=Lib.hid hx;have hl1:=Lib.hid hl1;have hl2:=Lib.hid hl2
      go_wp2_with (at_builtin;refine Hid.out ?_)
      refine Hid.mk ?_
      refine wpList_append_any rfl _ _ 71 71 rfl rfl rfl Tryz.underlying71 Tryz.underlying71 hty.out hz.out hi3.out hz3.out (hI'.out.1.2.ext hE.out) hx.out (by simp [Item.row,Value.oneCell']) (Nat.le_trans (Nat.add_le_add_right hl2.out 1) (by simp [maxLen])) (by rw [hby.out];exact Nat.le_trans (Nat.mul_le_mul_right 24 (Nat.add_le_add_right hl2.out 1)) (by decide)) hEs.out ?_
      intro v' w' hO' hK' hb' _
      have hN:=Lib.hid (hI'.out.gone hY.out rfl hE.out hO' hK' hb')
      clear hO' hK' hb'
      go_wp2
      go_roundw
      case rel=>exact ⟨j+1,k+1,by have:=hj'.out;omega,by omega,by go_num,hN.out⟩
      case measure=>simp [intOf];omega
     ·have hkl : k=n.length:=by omega
      subst hkl
      have hjl : j=l.length:=by have:=hnl.out;omega
      clear hj
      subst hjl
      obtain ⟨⟨h1,h2⟩,⟨-,-,h5⟩,hE,_⟩:=hI
      rw [List.take_length] at h1 h2
      have h1:=Lib.hid h1;have h2:=Lib.hid h2;have h5o:=Lib.hid h5;clear h5
      go_wp2
      go_ret3
      rw [e1.out.1,e1.out.2.1,e1.out.2.2,hlf.out,hgn.out]
      exact ⟨_,_,rfl,h1.out,h2.out,h5o.out,hE⟩
end Go.Proofs.YtnplphcnagooeaaGreatDoor

/- Contracts: layer 29, the program's and the reference's, and the helpers of its statements. (printed by gen/accd.py) -/
namespace Go.Proofs.YtnplphcnagooeaaGreatDoor
set_option maxRecDepth 100000
open Go.RowKit
set_option maxHeartbeats 400000 in
theorem access_ReadO {l : List Item} {v : Value} {w : World} (tag : Int) (hl : Its w v l) :
  Calls Tryz.prog 115 #[v,.int .i64 tag] w (RetUO w (accL l tag false) (accG l tag false) (accW l tag false) (chk l)):=by
 have hC:=Lib.hid (access_useO tag false hl)
 obtain ⟨a,cp,rfl,-⟩:=hl.form
 clear hl
 go_enter Tryz.func115,Tryz.ntmps115
 go_wp2_with fail
 refine hC.out.mono ?_
 rintro e w1 ⟨v1,v2,rfl,h1,h2,h3,hE⟩
 have h3o:=Lib.hid h3;clear h3
 go_wp2
 refine bodyPost_ret (results_tmp4 rfl _ _ _) rfl ?_
 exact ⟨_,_,rfl,h1,h2,h3o.out,hE⟩
set_option maxHeartbeats 400000 in
theorem ref29_ReadO {l : List Item} {v : Value} {w : World} (tag : Int) (hl : Its w v l) :
  Calls Tryz.prog 144 #[v,.int .i64 tag] w (RetUO w (accL l tag false) (accG l tag false) (accW l tag false) (chk l)):=by
 have hL:=Lib.hid hl
 obtain ⟨a,cp,rfl,-⟩:=hl.form
 clear hl
 cases hk : okS l
 ·have h8 : Hid (accL l tag false=[]∧accG l tag false=[]∧accW l tag false=0∧chk l=8):=Hid.mk (by simp [accL,accG,accW,chk,hk])
  go_enter Tryz.func144,Tryz.ntmps144
  go_wp2_with fail
  refine (ref28_Check hL.out).mono ?_
  rintro e w1 ⟨rfl,hE⟩
  rw [h8.out.2.2.2]
  go_wp2
  refine bodyPost_ret (results_tmp4 rfl _ _ _) rfl ?_
  rw [h8.out.1,h8.out.2.1,h8.out.2.2.1,h8.out.2.2.2]
  exact RetUO.none hE
 ·have h0 : Hid (accL l tag false=usedL l tag false∧accG l tag false=usedG l tag false∧accW l tag false=usedW l tag false∧chk l=0):=Hid.mk (by simp [accL,accG,accW,chk,hk])
  have hl6 : l.length≤600:=by simp [okS] at hk;omega
  go_enter Tryz.func144,Tryz.ntmps144
  go_wp2_with fail
  refine (ref28_Check hL.out).mono ?_
  rintro e w1 ⟨rfl,hE⟩
  rw [h0.out.2.2.2]
  go_wp2_with fail
  refine (ref29_UsedO tag false (hL.out.ext hE) hl6).mono ?_
  rintro e w2 ⟨v1,v2,rfl,h1,h2,h3,hE2⟩
  have h3o:=Lib.hid h3;clear h3
  go_wp2
  refine bodyPost_ret (results_tmp4 rfl _ _ _) rfl ?_
  rw [h0.out.1,h0.out.2.1,h0.out.2.2.1,h0.out.2.2.2]
  exact ⟨_,_,rfl,h1.mono hE.size,h2.mono hE.size,h3o.out,hE.trans hE2⟩
set_option maxHeartbeats 400000 in
theorem access_WriteO {l : List Item} {v : Value} {w : World} (tag : Int) (hl : Its w v l) :
  Calls Tryz.prog 119 #[v,.int .i64 tag] w (RetUO w (accL l tag true) (accG l tag true) (accW l tag true) (chk l)):=by
 have hC:=Lib.hid (access_useO tag true hl)
 obtain ⟨a,cp,rfl,-⟩:=hl.form
 clear hl
 go_enter Tryz.func119,Tryz.ntmps119
 go_wp2_with fail
 refine hC.out.mono ?_
 rintro e w1 ⟨v1,v2,rfl,h1,h2,h3,hE⟩
 have h3o:=Lib.hid h3;clear h3
 go_wp2
 refine bodyPost_ret (results_tmp4 rfl _ _ _) rfl ?_
 exact ⟨_,_,rfl,h1,h2,h3o.out,hE⟩
set_option maxHeartbeats 400000 in
theorem ref29_WriteO {l : List Item} {v : Value} {w : World} (tag : Int) (hl : Its w v l) :
  Calls Tryz.prog 146 #[v,.int .i64 tag] w (RetUO w (accL l tag true) (accG l tag true) (accW l tag true) (chk l)):=by
 have hL:=Lib.hid hl
 obtain ⟨a,cp,rfl,-⟩:=hl.form
 clear hl
 cases hk : okS l
 ·have h8 : Hid (accL l tag true=[]∧accG l tag true=[]∧accW l tag true=0∧chk l=8):=Hid.mk (by simp [accL,accG,accW,chk,hk])
  go_enter Tryz.func146,Tryz.ntmps146
  go_wp2_with fail
  refine (ref28_Check hL.out).mono ?_
  rintro e w1 ⟨rfl,hE⟩
  rw [h8.out.2.2.2]
  go_wp2
  refine bodyPost_ret (results_tmp4 rfl _ _ _) rfl ?_
  rw [h8.out.1,h8.out.2.1,h8.out.2.2.1,h8.out.2.2.2]
  exact RetUO.none hE
 ·have h0 : Hid (accL l tag true=usedL l tag true∧accG l tag true=usedG l tag true∧accW l tag true=usedW l tag true∧chk l=0):=Hid.mk (by simp [accL,accG,accW,chk,hk])
  have hl6 : l.length≤600:=by simp [okS] at hk;omega
  go_enter Tryz.func146,Tryz.ntmps146
  go_wp2_with fail
  refine (ref28_Check hL.out).mono ?_
  rintro e w1 ⟨rfl,hE⟩
  rw [h0.out.2.2.2]
  go_wp2_with fail
  refine (ref29_UsedO tag true (hL.out.ext hE) hl6).mono ?_
  rintro e w2 ⟨v1,v2,rfl,h1,h2,h3,hE2⟩
  have h3o:=Lib.hid h3;clear h3
  go_wp2
  refine bodyPost_ret (results_tmp4 rfl _ _ _) rfl ?_
  rw [h0.out.1,h0.out.2.1,h0.out.2.2.1,h0.out.2.2.2]
  exact ⟨_,_,rfl,h1.mono hE.size,h2.mono hE.size,h3o.out,hE.trans hE2⟩
end Go.Proofs.YtnplphcnagooeaaGreatDoor

/- Contracts: Push, the program's and the reference's. (printed by gen/push.py) -/
namespace Go.Proofs.YtnplphcnagooeaaGreatDoor
set_option maxRecDepth 100000
open Go.RowKit
def pushErr (l : List Item) (x : Item) : Int:=if okS l then (if x.ok then (if l.length=600 then 18 else 0) else 8) else 8
def pushOf (l : List Item) (x : Item) : List Item:=if pushErr l x=0 then l ++ [x] else []
set_option maxHeartbeats 1600000 in
theorem items_Push_ok {l : List Item} {v : Value} {w : World} (x : Item) (hl : Its w v l) (hk : okS l=true) (hx : x.ok=true) (h6 : l.length≠600) :
  Calls Tryz.prog 134 #[v,x.val] w (RetLN 70 w (l ++ [x]) 0):=by
 have hE0:=(Ext.refl w).alloc (.cells x.row.toArray 70)
 have hC:=Lib.hid (items_Check (hl.ext hE0))
 have hI:=Lib.hid (items_isItem x)
 have hW:=Lib.hid hl
 have h0 : Hid (chk l=0):=Hid.mk (by simp [chk,hk])
 have hX:=Lib.hid hx
 have hb : ((l.length : Int) == 600)=false:=by simp;omega
 have hs : l.length≤600:=by simp [okS] at hk;omega
 obtain ⟨a,cp,rfl,hlc,hcm,hnn⟩:=hl.form
 clear hl hk hx h6
 obtain ⟨p,t,c⟩:=x
 unfold Item.val Item.row at *
 go_enter Tryz.func134,Tryz.ntmps134
 go_wp2_with (first | (go_at_call 113;refine hC.out.mono ?_;rintro e w1 ⟨rfl,hE1⟩;rw [h0.out];have c0:=hE1.cell (p:=⟨w.heap.size,0,none⟩) (v := .int .u8 p) (by simp);have c1:=hE1.cell (p:=⟨w.heap.size,1,none⟩) (v := .int .i64 t) (by simp);have c2:=hE1.cell (p:=⟨w.heap.size,2,none⟩) (v := .int .i64 c) (by simp)) | (go_at_call 127;refine (hI.out _).mono ?_;rintro e w2 ⟨rfl,hE2⟩;rw [hX.out];have d0:=hE2.cell c0;have d1:=hE2.cell c1;have d2:=hE2.cell c2))
 have hE2':=(hE0.trans hE1).trans hE2
 clear c0 c1 c2
 have hE2s:=hE2'.size
 have hz0 : w.heap.size < w2.heap.size:=by have:=hE1.size;have:=hE2.size;simp at *;omega
 have hSk : ∀ w' w'' : World,((w'.cell? ⟨w.heap.size,0,none⟩=some (.int .u8 p)∧w'.cell? ⟨w.heap.size,1,none⟩=some (.int .i64 t)∧w'.cell? ⟨w.heap.size,2,none⟩=some (.int .i64 c))∧Ext w2 w')→Below w2.heap.size w' w''→((w''.cell? ⟨w.heap.size,0,none⟩=some (.int .u8 p)∧w''.cell? ⟨w.heap.size,1,none⟩=some (.int .i64 t)∧w''.cell? ⟨w.heap.size,2,none⟩=some (.int .i64 c))∧Ext w2 w''):=by
  rintro w' w'' ⟨⟨h0,h1,h2⟩,h3⟩ h
  have g:=fun o=>Below.cell h (p:=⟨w.heap.size,o,none⟩) hz0
  exact ⟨⟨(g 0).trans h0,(g 1).trans h1,(g 2).trans h2⟩,Below.trans h3 h⟩
 obtain ⟨i,z,hi,hz,hi3,hz3,hby⟩:=Item.infoE
 have hi':=Lib.hid hi;have hz':=Lib.hid hz;have hi3':=Lib.hid hi3;have hz3':=Lib.hid hz3;have hby':=Lib.hid hby
 clear hi hz hi3 hz3 hby
 go_region_held3 (fun w'=>(w'.cell? ⟨w.heap.size,0,none⟩=some (.int .u8 p)∧w'.cell? ⟨w.heap.size,1,none⟩=some (.int .i64 t)∧w'.cell? ⟨w.heap.size,2,none⟩=some (.int .i64 c))∧Ext w2 w') (first | exact ⟨⟨d0,d1,d2⟩,(Ext.refl _).drew⟩ | (refine hSk _ _ (by assumption) ?_;first | exact hK'.below | exact Below.alloc (Below.refl _ _) (Ext.size (And.right (by assumption))) _ | exact Below.mono (by assumption : Ext _ _) (Ext.size (And.right (by assumption))) | exact Below.mono (by assumption) (Ext.size (And.right (by assumption))))) (first | (go_at_call 91;refine (clone_Stack (l:=l) (Its.ext hW.out (hE2'.trans ?_)) (by omega)).mono ?_;(exact And.right (by assumption));rintro e w3 ⟨v3,rfl,hO,hE3⟩) | (rw [if_pos (by rfl)];refine wp_append_any (.tmp 19) (.tmp 21) 72 72 rfl rfl rfl (B:=w2.heap.size) (e:=70) (n:=l.length) (m:=1) (xs:=l.flatMap Item.row) (ys:=[.int .u8 p,.int .i64 t,.int .i64 c]) Tryz.underlying72 Tryz.underlying72 hi'.out hz'.out hi3'.out hz3'.out ?_ ?_ ?_ ?_ ?_ ?_ ?_;(first | exact (hO.mono (Nat.le_refl _)).ext ((Ext.refl _).alloc _) | exact hO.mono (by simp));(first | exact (Own.lit (B:=0) (e:=70) (k:=3) _ #[.int .u8 p,.int .i64 t,.int .i64 c] 1 (Nat.zero_le _) (by simp [maxLen]) rfl).sl | exact ((Own.lit (B:=0) (e:=70) (k:=3) _ #[.int .u8 p,.int .i64 t,.int .i64 c] 1 (Nat.zero_le _) (by simp [maxLen]) rfl).sl.ext (Ext.refl _).drew).ext hE3);(simp [Value.oneCell']);(simp [maxLen];omega);(rw [hby'.out];omega);(have:=hE3.size;simp at *;omega);intro v' w' hO' hK' _ _))
 all_goals
  go_wp2
  go_ret2
  refine ⟨_,rfl,?_,?_⟩
  ·rw [List.length_append,List.flatMap_append]
   exact hO'.mono hE2s
  ·have hX:=And.right (by assumption : (w'.cell? ⟨w.heap.size,0,none⟩=some (.int .u8 p)∧w'.cell? ⟨w.heap.size,1,none⟩=some (.int .i64 t)∧w'.cell? ⟨w.heap.size,2,none⟩=some (.int .i64 c))∧Ext w2 w')
   exact hE2'.trans hX
set_option maxHeartbeats 800000 in
theorem items_Push {l : List Item} {v : Value} {w : World} (x : Item) (hl : Its w v l) :
  Calls Tryz.prog 134 #[v,x.val] w (RetLN 70 w (pushOf l x) (pushErr l x)):=by
 by_cases hk : okS l=true
 ·by_cases hx : x.ok=true
  ·by_cases h6 : l.length=600
   ·have hE0:=(Ext.refl w).alloc (.cells x.row.toArray 70)
    have hC:=Lib.hid (items_Check (hl.ext hE0))
    have hI:=Lib.hid (items_isItem x)
    have h0 : Hid (chk l=0):=Hid.mk (by simp [chk,hk])
    have hX:=Lib.hid hx
    have he : Hid (pushErr l x=18):=Hid.mk (by simp [pushErr,hk,hx,h6])
    have hb : ((l.length : Int) == 600)=true:=by simp;omega
    unfold pushOf;rw [he.out]
    obtain ⟨a,cp,rfl,hlc,hcm,hnn⟩:=hl.form
    clear hl hk hx h6 he
    obtain ⟨p,t,c⟩:=x
    unfold Item.val Item.row at *
    go_enter Tryz.func134,Tryz.ntmps134
    go_wp2_with (first | (go_at_call 113;refine hC.out.mono ?_;rintro e w1 ⟨rfl,hE1⟩;rw [h0.out];have c0:=hE1.cell (p:=⟨w.heap.size,0,none⟩) (v := .int .u8 p) (by simp);have c1:=hE1.cell (p:=⟨w.heap.size,1,none⟩) (v := .int .i64 t) (by simp);have c2:=hE1.cell (p:=⟨w.heap.size,2,none⟩) (v := .int .i64 c) (by simp)) | (go_at_call 127;refine (hI.out _).mono ?_;rintro e w2 ⟨rfl,hE2⟩;rw [hX.out]))
    go_ret2
    exact ⟨_,rfl,Own.nil _ _ _ _,(hE0.trans hE1).trans hE2⟩
   ·unfold pushOf
    rw [show pushErr l x=0 by simp [pushErr,hk,hx,h6]]
    exact items_Push_ok x hl hk hx h6
  ·have hE0:=(Ext.refl w).alloc (.cells x.row.toArray 70)
   have hC:=Lib.hid (items_Check (hl.ext hE0))
   have hI:=Lib.hid (items_isItem x)
   have h0 : Hid (chk l=0):=Hid.mk (by simp [chk,hk])
   have hX : Hid (x.ok=false):=Hid.mk (by simpa using hx)
   have he : Hid (pushErr l x=8):=Hid.mk (by simp [pushErr,hk,hx])
   unfold pushOf;rw [he.out]
   obtain ⟨a,cp,rfl,hlc,hcm,hnn⟩:=hl.form
   clear hl hk hx he
   obtain ⟨p,t,c⟩:=x
   unfold Item.val Item.row at *
   go_enter Tryz.func134,Tryz.ntmps134
   go_wp2_with (first | (go_at_call 113;refine hC.out.mono ?_;rintro e w1 ⟨rfl,hE1⟩;rw [h0.out];have c0:=hE1.cell (p:=⟨w.heap.size,0,none⟩) (v := .int .u8 p) (by simp);have c1:=hE1.cell (p:=⟨w.heap.size,1,none⟩) (v := .int .i64 t) (by simp);have c2:=hE1.cell (p:=⟨w.heap.size,2,none⟩) (v := .int .i64 c) (by simp)) | (go_at_call 127;refine (hI.out _).mono ?_;rintro e w2 ⟨rfl,hE2⟩;rw [hX.out]))
   go_ret2
   exact ⟨_,rfl,Own.nil _ _ _ _,(hE0.trans hE1).trans hE2⟩
 ·have hE0:=(Ext.refl w).alloc (.cells x.row.toArray 70)
  have hC:=Lib.hid (items_Check (hl.ext hE0))
  have h8 : Hid (chk l=8):=Hid.mk (by simp [chk,hk])
  have he : Hid (pushErr l x=8):=Hid.mk (by simp [pushErr,hk])
  unfold pushOf;rw [he.out]
  obtain ⟨a,cp,rfl,hlc,hcm,hnn⟩:=hl.form
  clear hl hk he
  obtain ⟨p,t,c⟩:=x
  unfold Item.val Item.row at *
  go_enter Tryz.func134,Tryz.ntmps134
  go_wp2_with (go_at_call 113;refine hC.out.mono ?_;rintro e w1 ⟨rfl,hE1⟩;rw [h8.out])
  go_ret2
  exact ⟨_,rfl,Own.nil _ _ _ _,hE0.trans hE1⟩
end Go.Proofs.YtnplphcnagooeaaGreatDoor

/- Contracts: layer 30, the program's and the reference's. -/
namespace Go.Proofs.YtnplphcnagooeaaGreatDoor
set_option maxRecDepth 100000
open Go.RowKit
def u8B (k : Int) : Prop:=0≤k∧k≤255
def Perms (w : World) : Prop:=w.cell? ⟨0,0,none⟩=some (.int .u8 0)∧w.cell? ⟨0,1,none⟩=some (.int .u8 4)∧w.cell? ⟨0,2,none⟩=some (.int .u8 1)∧w.cell? ⟨0,3,none⟩=some (.int .u8 2)∧w.cell? ⟨0,4,none⟩=some (.int .u8 3)
theorem Perms.ext {w w' : World} (h : Perms w) (hE : Ext w w') : Perms w':=⟨hE.cell h.1,hE.cell h.2.1,hE.cell h.2.2.1,hE.cell h.2.2.2.1,hE.cell h.2.2.2.2⟩
theorem Perms.at {w : World} (h : Perms w) {k : Int} (hk : kindOk k=true) : w.cell? ⟨0,k.toNat,none⟩=some (.int .u8 (permOf k)):=by
 unfold kindOk at hk
 simp only [Bool.and_eq_true,decide_eq_true_eq] at hk
 obtain rfl | rfl | rfl | rfl : k=1∨k=2∨k=3∨k=4:=by omega
 ·exact h.2.1
 ·exact h.2.2.1
 ·exact h.2.2.2.1
 ·exact h.2.2.2.2
theorem kind_yes {k : Int} (h : kindOk k=true) : k=1∨k=2∨k=3∨k=4:=by
 unfold kindOk at h
 simp only [Bool.and_eq_true,decide_eq_true_eq] at h
 omega
theorem kind_no {k : Int} (h : kindOk k=false) (hk : u8B k) : k=0∨5≤k:=by
 unfold kindOk at h
 obtain ⟨h1,h2⟩:=hk
 rcases Bool.and_eq_false_iff.1 h with h | h <;> simp only [decide_eq_false_iff_not] at h <;> omega
theorem kindErr_yes {k : Int} (h : kindOk k=true) : kindErr k=0:=by simp [kindErr,h]
theorem kindErr_no {k : Int} (h : kindOk k=false) : kindErr k=2:=by simp [kindErr,h]
set_option maxHeartbeats 400000 in
theorem grant_Check {k : Int} (w : World) (hk : u8B k) : Calls Tryz.prog 48 #[.int .u8 k] w fun e w'=>e = .returned (.int .i64 (kindErr k))∧w=w':=by
 cases h : kindOk k
 ·have hr:=Lib.hid (kindErr_no h)
  rcases kind_no h hk with rfl | h5
  ·clear h hk
   go_enter Tryz.func48,Tryz.ntmps48
   go_wp2
   go_ret
   exact ⟨by rw [hr.out] <;> rfl,rfl⟩
  ·have q1 : (k == 0)=false:=beq_eq_false_iff_ne.2 (by omega)
   have q2 : decide (5≤k)=true:=decide_eq_true h5
   clear h hk
   go_enter Tryz.func48,Tryz.ntmps48
   go_wp2
   go_ret
   exact ⟨by rw [hr.out] <;> rfl,rfl⟩
 ·have hr:=Lib.hid (kindErr_yes h)
  rcases kind_yes h with rfl | rfl | rfl | rfl
  all_goals
   clear h hk
   go_enter Tryz.func48,Tryz.ntmps48
   go_wp2
   go_ret
   exact ⟨by rw [hr.out] <;> rfl,rfl⟩
set_option maxHeartbeats 400000 in
theorem ref30_Check {k : Int} (w : World) (hk : u8B k) : Calls Tryz.prog 51 #[.int .u8 k] w fun e w'=>e = .returned (.int .i64 (kindErr k))∧w=w':=by
 cases h : kindOk k
 ·have hr:=Lib.hid (kindErr_no h)
  rcases kind_no h hk with rfl | h5
  ·clear h hk
   go_enter Tryz.func51,Tryz.ntmps51
   go_wp2
   go_ret
   exact ⟨by rw [hr.out] <;> rfl,rfl⟩
  ·have q1 : decide (k < 1)=false:=decide_eq_false (by omega)
   have q2 : decide (4 < k)=true:=decide_eq_true (by omega)
   clear h hk
   go_enter Tryz.func51,Tryz.ntmps51
   go_wp2
   go_ret
   exact ⟨by rw [hr.out] <;> rfl,rfl⟩
 ·have hr:=Lib.hid (kindErr_yes h)
  rcases kind_yes h with rfl | rfl | rfl | rfl
  all_goals
   clear h hk
   go_enter Tryz.func51,Tryz.ntmps51
   go_wp2
   go_ret
   exact ⟨by rw [hr.out] <;> rfl,rfl⟩
set_option maxHeartbeats 400000 in
theorem ref30_Given (k : Int) (w : World) : Calls Tryz.prog 161 #[.int .u8 k] w fun e w'=>e = .returned (.int .u8 (permOf k))∧w=w':=by
 by_cases h1 : k=1
 ·subst h1
  go_enter Tryz.func161,Tryz.ntmps161
  go_wp2
  go_ret
  exact ⟨rfl,rfl⟩
 ·by_cases h2 : k=2
  ·subst h2
   go_enter Tryz.func161,Tryz.ntmps161
   go_wp2
   go_ret
   exact ⟨rfl,rfl⟩
  ·by_cases h3 : k=3
   ·subst h3
    go_enter Tryz.func161,Tryz.ntmps161
    go_wp2
    go_ret
    exact ⟨rfl,rfl⟩
   ·have q1 : (k == 1)=false:=beq_eq_false_iff_ne.2 h1
    have q2 : (k == 2)=false:=beq_eq_false_iff_ne.2 h2
    have q3 : (k == 3)=false:=beq_eq_false_iff_ne.2 h3
    have hr : Hid (permOf k=3):=Hid.mk (by simp [permOf,h1,h2,h3])
    clear h1 h2 h3
    go_enter Tryz.func161,Tryz.ntmps161
    go_wp2
    go_ret
    exact ⟨by rw [hr.out] <;> rfl,rfl⟩
set_option maxHeartbeats 400000 in
theorem ref30_Wrote (k : Int) (w : World) : Calls Tryz.prog 160 #[.int .u8 k] w fun e w'=>e = .returned (.bool (writesOf k))∧w=w':=by
 cases h1 : k == 2 <;> cases h2 : k == 4
 all_goals
  go_enter Tryz.func160,Tryz.ntmps160
  go_wp2
  go_ret
  exact ⟨by simp only [writesOf,h1,h2];rfl,rfl⟩
set_option maxHeartbeats 400000 in
theorem grant_Writes {k : Int} (w : World) (hk : u8B k) : Calls Tryz.prog 133 #[.int .u8 k] w fun e w'=>e = .returned (.tuple #[.bool (writesOf k),.int .i64 (kindErr k)])∧Ext w w':=by
 cases h1 : k == 2 <;> cases h2 : k == 4
 all_goals
  have hr : Hid (writesOf k=(k == 2 || k == 4)):=Hid.mk rfl
  go_enter Tryz.func133,Tryz.ntmps133
  go_wp2_with fail
  first
   | (refine (grant_Check _ hk).mono ?_;rintro e w1 ⟨rfl,rfl⟩;go_wp2;go_ret2;exact ⟨by rw [hr.out,h1,h2];rfl,Ext.refl _⟩)
   | (go_quiet ((go_at_call 48;exact Calls.quiet_of_same ((grant_Check _ hk).mono fun _ _ h=>⟨h.1,h.2.symm⟩)));go_wp2;go_ret2;exact ⟨by rw [hr.out,h1,h2];rfl,(Ext.refl _).drewN _⟩)
end Go.Proofs.YtnplphcnagooeaaGreatDoor

/- Contracts: grant.Perm, grant.Retag, the reference's Tagged and Retag (layer 30). -/
namespace Go.Proofs.YtnplphcnagooeaaGreatDoor
set_option maxRecDepth 100000
open Go.RowKit
theorem retUO_errs {w w' : World} {r : List Item × List Item × Int × Int} {why n : Int} (h : r=([],[],why,n)) (hE : Ext w w') : RetUO w r.1 r.2.1 r.2.2.1 r.2.2.2 (.returned (.tuple #[.slice none 0 0,.slice none 0 0,.int .u8 why,.int .i64 n])) w':=by
 rw [h]
 exact RetUO.none hE
set_option maxHeartbeats 1600000 in
theorem grant_RetagO {l : List Item} {k : Int} {v : Value} {w : World} (hp : Perms w) (hk : u8B k) (old : Int) (x : Item) (hl : Its w v l) :
  Calls Tryz.prog 120 #[v,.int .u8 k,.int .i64 old,x.val] w (RetUO w (retagR l k old x).1 (retagR l k old x).2.1 (retagR l k old x).2.2.1 (retagR l k old x).2.2.2):=by
 obtain ⟨a,cp,rfl,-⟩:=hl.form
 obtain ⟨xp,xt,xc⟩:=x
 unfold Item.val
 have bX:=Box.new w 70 #[.int .u8 xp,.int .i64 xt,.int .i64 xc]
 have hF : Ext w (w.alloc (.cells #[.int .u8 xp,.int .i64 xt,.int .i64 xc] 70)):=(Ext.refl _).alloc _
 have hL:=Lib.hid (hl.ext hF)
 have hP:=Lib.hid (hp.ext hF)
 clear hl hp
 cases hok : okS l
 ·have h8 : Hid (chk l=8):=Hid.mk (by simp [chk,hok])
  have hres:=Lib.hid (retagR_bad (k:=k) (old:=old) (x:=⟨xp,xt,xc⟩) hok)
  clear hok bX
  go_enter Tryz.func120,Tryz.ntmps120
  go_wp2_with fail
  refine (items_Check hL.out).mono ?_
  rintro e w1 ⟨rfl,hE1⟩
  rw [h8.out]
  go_wp2
  refine bodyPost_ret (results_tmp4 rfl _ _ _) rfl ?_
  exact retUO_errs hres.out (hF.trans hE1)
 ·have h0 : Hid (chk l=0):=Hid.mk (by simp [chk,hok])
  cases ha : kindOk k && argOk ⟨xp,xt,xc⟩
  ·have hres:=Lib.hid (retagR_arg (old:=old) hok ha)
   clear hok
   have hcase : (kindErr k=2)∨(kindErr k=0∧((xp != 0)=true∨((xp != 0)=false∧(decide (xt < 0)=true∨(decide (xt < 0)=false∧(decide (1000000 < xt)=true∨(decide (1000000 < xt)=false∧(decide (xc < 0)=true∨(decide (xc < 0)=false∧decide (1000000 < xc)=true))))))))):=by
    cases h1 : kindOk k
    ·exact .inl (kindErr_no h1)
    ·refine .inr ⟨kindErr_yes h1,?_⟩
     rw [h1,Bool.true_and] at ha
     unfold argOk inB at ha
     simp only [Bool.and_eq_false_iff,beq_eq_false_iff_ne,decide_eq_false_iff_not,decide_eq_true_eq,bne_iff_ne,bne_eq_false_iff_eq] at ha ⊢
     omega
   clear ha
   rcases hcase with q | ⟨q,q0 | ⟨q0,q1 | ⟨q1,q2 | ⟨q2,q3 | ⟨q3,q4⟩⟩⟩⟩⟩
   all_goals
    replace q:=Lib.hid q
    go_enter Tryz.func120,Tryz.ntmps120
    go_wp2_with fail
    refine (items_Check hL.out).mono ?_
    rintro e w1 ⟨rfl,hE1⟩
    rw [h0.out]
    replace bX:=bX.ext hE1
    go_wp2_with fail
    refine (grant_Writes _ hk).mono ?_
    rintro e w2 ⟨rfl,hE2⟩
    rw [q.out]
    replace bX:=bX.ext hE2
    have b0:=bX.cell 0;have b1:=bX.cell 1;have b2:=bX.cell 2
    go_wp2
    refine bodyPost_ret (results_tmp4 rfl _ _ _) rfl ?_
    exact retUO_errs hres.out ((hF.trans hE1).trans hE2)
  ·have hres0 : Hid (usedW l old (writesOf k)≠0→retagR l k old ⟨xp,xt,xc⟩=([],[],usedW l old (writesOf k),0)):=Hid.mk (retagR_no hok ha)
   have hres1 : Hid (usedW l old (writesOf k)=0→(usedL l old (writesOf k)).length=600→retagR l k old ⟨xp,xt,xc⟩=([],[],0,18)):=Hid.mk (retagR_full hok ha)
   have hres2 : Hid (usedW l old (writesOf k)=0 → ¬ (usedL l old (writesOf k)).length=600→retagR l k old ⟨xp,xt,xc⟩=(usedL l old (writesOf k) ++ [⟨permOf k,xt,xc⟩],usedG l old (writesOf k),0,0)):=Hid.mk (retagR_yes hok ha)
   rw [Bool.and_eq_true] at ha
   have hnew:=Lib.hid (newItem_ok (k:=k) ha.2)
   have hUok : Hid (∀ wb,okS (usedL l old wb)=true):=Hid.mk (fun wb=>usedL_ok hok)
   have q:=Lib.hid (kindErr_yes ha.1)
   have hKind:=Lib.hid ha.1
   have hacc : Hid (∀ wb,accL l old wb=usedL l old wb∧accG l old wb=usedG l old wb∧accW l old wb=usedW l old wb∧chk l=0):=Hid.mk (fun wb=>by simp [accL,accG,accW,chk,hok])
   have ha2:=ha.2
   unfold argOk inB at ha2
   simp only [Bool.and_eq_true,beq_iff_eq,decide_eq_true_eq] at ha2
   obtain ⟨⟨rfl,hx1,hx2⟩,hx3,hx4⟩:=ha2
   have q1 : decide (xt < 0)=false:=decide_eq_false (by omega)
   have q2 : decide (1000000 < xt)=false:=decide_eq_false (by omega)
   have q3 : decide (xc < 0)=false:=decide_eq_false (by omega)
   have q4 : decide (1000000 < xc)=false:=decide_eq_false (by omega)
   clear hok ha hx1 hx2 hx3 hx4
   obtain ⟨wb,hwb⟩ : ∃ wb,writesOf k=wb:=⟨_,rfl⟩
   rw [hwb] at hres0 hres1 hres2
   replace hwb:=Lib.hid hwb
   rcases usedW_cases l old wb with ⟨hu,-⟩ | ⟨hu,-⟩
   ·have hu':=Lib.hid hu
    by_cases hf : (usedL l old wb).length=600
    ·have hres:=Lib.hid (hres1.out hu hf)
     have hpe : Hid (pushErr (usedL l old wb) ⟨permOf k,xt,xc⟩=18):=Hid.mk (by simp [pushErr,hUok.out wb,hnew.out,hf])
     have hpo : Hid (pushOf (usedL l old wb) ⟨permOf k,xt,xc⟩=[]):=Hid.mk (by simp [pushOf,hpe.out])
     clear hu hf hres0 hres1 hres2
     cases wb
     ·
      go_enter Tryz.func120,Tryz.ntmps120
      go_wp2_with fail
      refine (items_Check hL.out).mono ?_
      rintro e w1 ⟨rfl,hE1⟩
      rw [h0.out]
      replace bX:=bX.ext hE1
      go_wp2_with fail
      refine (grant_Writes _ hk).mono ?_
      rintro e w2 ⟨rfl,hE2⟩
      rw [q.out,hwb.out]
      replace bX:=bX.ext hE2
      have b0:=bX.cell 0;have b1:=bX.cell 1;have b2:=bX.cell 2
      go_wp2_with fail
      refine (access_ReadO old ((hL.out.ext hE1).ext hE2)).mono ?_
      rintro e w3 ⟨v3,u3,rfl,hv3,hu3,hd3,hE3⟩
      obtain ⟨e1,e2,e3,e4⟩:=hacc.out false
      rw [e1] at hv3;rw [e2] at hu3;rw [e3,e4,hu'.out]
      clear e1 e2 e3 e4
      replace hd3:=Lib.hid hd3
      have hF3:=((hF.trans hE1).trans hE2).trans hE3
      have hs0 : w.heap.size < w3.heap.size:=Nat.lt_of_lt_of_le (by simp) (((hE1.trans hE2).trans hE3).size)
      replace bX:=bX.ext hE3
      have hPm:=(((hP.out.ext hE1).ext hE2).ext hE3)
      have hcell:=hPm.at hKind.out
      have hk5 : 0≤k∧k < 5:=by rcases kind_yes hKind.out with h | h | h | h <;> omega
      clear hPm b0 b1 b2
      have b0:=bX.cell 0;have b1:=bX.cell 1;have b2:=bX.cell 2;have hfr:=bX.frozen 0
      obtain ⟨a3,c3,rfl,-⟩:=(Own.sl hv3).slice_form
      obtain ⟨a4,c4,rfl,-⟩:=(Own.sl hu3).slice_form
      go_wp2_with fail
      have hw2 : w.heap.size < w2.heap.size:=Nat.lt_of_lt_of_le (by simp) ((hE1.trans hE2).size)
      have hS : ExtBut (· = w.heap.size) w3 (w3.setCell ⟨w.heap.size,0,none⟩ (.int .u8 (permOf k))):=ExtBut.setCell w3 ⟨w.heap.size,0,none⟩ _
      replace hF3 : Ext w (w3.setCell ⟨w.heap.size,0,none⟩ (.int .u8 (permOf k))):=hF3.setCell (Nat.le_refl _) _
      replace hv3:=ExtBut.own hv3 hS (fun g hg e=>by have:=(hv3.lt hg).1;omega)
      replace hu3:=ExtBut.own hu3 hS (fun g hg e=>by have:=(hu3.lt hg).1;omega)
      clear hS
      obtain ⟨w4,hw4⟩ : ∃ x,w3.setCell ⟨w.heap.size,0,none⟩ (.int .u8 (permOf k))=x:=⟨_,rfl⟩
      rw [hw4] at hF3 hv3 hu3 ⊢
      clear hw4
      refine (items_Push ⟨permOf k,xt,xc⟩ (Own.sl hv3)).mono ?_
      rintro e w5 ⟨v5,rfl,hv5,hE5⟩
      rw [hpe.out]
      rw [hpo.out] at hv5
      obtain ⟨a5,c5,rfl,-⟩:=(Own.sl hv5).slice_form
      go_wp2
      refine bodyPost_ret (results_tmp4 rfl _ _ _) rfl ?_
      exact retUO_errs hres.out (hF3.trans hE5)
     ·
      go_enter Tryz.func120,Tryz.ntmps120
      go_wp2_with fail
      refine (items_Check hL.out).mono ?_
      rintro e w1 ⟨rfl,hE1⟩
      rw [h0.out]
      replace bX:=bX.ext hE1
      go_wp2_with fail
      refine (grant_Writes _ hk).mono ?_
      rintro e w2 ⟨rfl,hE2⟩
      rw [q.out,hwb.out]
      replace bX:=bX.ext hE2
      have b0:=bX.cell 0;have b1:=bX.cell 1;have b2:=bX.cell 2
      go_wp2_with fail
      refine (access_WriteO old ((hL.out.ext hE1).ext hE2)).mono ?_
      rintro e w3 ⟨v3,u3,rfl,hv3,hu3,hd3,hE3⟩
      obtain ⟨e1,e2,e3,e4⟩:=hacc.out true
      rw [e1] at hv3;rw [e2] at hu3;rw [e3,e4,hu'.out]
      clear e1 e2 e3 e4
      replace hd3:=Lib.hid hd3
      have hF3:=((hF.trans hE1).trans hE2).trans hE3
      have hs0 : w.heap.size < w3.heap.size:=Nat.lt_of_lt_of_le (by simp) (((hE1.trans hE2).trans hE3).size)
      replace bX:=bX.ext hE3
      have hPm:=(((hP.out.ext hE1).ext hE2).ext hE3)
      have hcell:=hPm.at hKind.out
      have hk5 : 0≤k∧k < 5:=by rcases kind_yes hKind.out with h | h | h | h <;> omega
      clear hPm b0 b1 b2
      have b0:=bX.cell 0;have b1:=bX.cell 1;have b2:=bX.cell 2;have hfr:=bX.frozen 0
      obtain ⟨a3,c3,rfl,-⟩:=(Own.sl hv3).slice_form
      obtain ⟨a4,c4,rfl,-⟩:=(Own.sl hu3).slice_form
      go_wp2_with fail
      have hw2 : w.heap.size < w2.heap.size:=Nat.lt_of_lt_of_le (by simp) ((hE1.trans hE2).size)
      have hS : ExtBut (· = w.heap.size) w3 (w3.setCell ⟨w.heap.size,0,none⟩ (.int .u8 (permOf k))):=ExtBut.setCell w3 ⟨w.heap.size,0,none⟩ _
      replace hF3 : Ext w (w3.setCell ⟨w.heap.size,0,none⟩ (.int .u8 (permOf k))):=hF3.setCell (Nat.le_refl _) _
      replace hv3:=ExtBut.own hv3 hS (fun g hg e=>by have:=(hv3.lt hg).1;omega)
      replace hu3:=ExtBut.own hu3 hS (fun g hg e=>by have:=(hu3.lt hg).1;omega)
      clear hS
      obtain ⟨w4,hw4⟩ : ∃ x,w3.setCell ⟨w.heap.size,0,none⟩ (.int .u8 (permOf k))=x:=⟨_,rfl⟩
      rw [hw4] at hF3 hv3 hu3 ⊢
      clear hw4
      refine (items_Push ⟨permOf k,xt,xc⟩ (Own.sl hv3)).mono ?_
      rintro e w5 ⟨v5,rfl,hv5,hE5⟩
      rw [hpe.out]
      rw [hpo.out] at hv5
      obtain ⟨a5,c5,rfl,-⟩:=(Own.sl hv5).slice_form
      go_wp2
      refine bodyPost_ret (results_tmp4 rfl _ _ _) rfl ?_
      exact retUO_errs hres.out (hF3.trans hE5)
    ·obtain ⟨N,hN⟩ : ∃ N,usedL l old wb ++ [⟨permOf k,xt,xc⟩]=N:=⟨_,rfl⟩
     have hres : Hid (retagR l k old ⟨0,xt,xc⟩=(N,usedG l old wb,0,0)):=Hid.mk (by rw [← hN];exact hres2.out hu hf)
     have hpe : Hid (pushErr (usedL l old wb) ⟨permOf k,xt,xc⟩=0):=Hid.mk (by simp [pushErr,hUok.out wb,hnew.out,hf])
     have hpo : Hid (pushOf (usedL l old wb) ⟨permOf k,xt,xc⟩=N):=Hid.mk (by rw [← hN];simp [pushOf,hpe.out])
     clear hN hu hf hres0 hres1 hres2
     cases wb
     ·
      go_enter Tryz.func120,Tryz.ntmps120
      go_wp2_with fail
      refine (items_Check hL.out).mono ?_
      rintro e w1 ⟨rfl,hE1⟩
      rw [h0.out]
      replace bX:=bX.ext hE1
      go_wp2_with fail
      refine (grant_Writes _ hk).mono ?_
      rintro e w2 ⟨rfl,hE2⟩
      rw [q.out,hwb.out]
      replace bX:=bX.ext hE2
      have b0:=bX.cell 0;have b1:=bX.cell 1;have b2:=bX.cell 2
      go_wp2_with fail
      refine (access_ReadO old ((hL.out.ext hE1).ext hE2)).mono ?_
      rintro e w3 ⟨v3,u3,rfl,hv3,hu3,hd3,hE3⟩
      obtain ⟨e1,e2,e3,e4⟩:=hacc.out false
      rw [e1] at hv3;rw [e2] at hu3;rw [e3,e4,hu'.out]
      clear e1 e2 e3 e4
      replace hd3:=Lib.hid hd3
      have hF3:=((hF.trans hE1).trans hE2).trans hE3
      have hs0 : w.heap.size < w3.heap.size:=Nat.lt_of_lt_of_le (by simp) (((hE1.trans hE2).trans hE3).size)
      replace bX:=bX.ext hE3
      have hPm:=(((hP.out.ext hE1).ext hE2).ext hE3)
      have hcell:=hPm.at hKind.out
      have hk5 : 0≤k∧k < 5:=by rcases kind_yes hKind.out with h | h | h | h <;> omega
      clear hPm b0 b1 b2
      have b0:=bX.cell 0;have b1:=bX.cell 1;have b2:=bX.cell 2;have hfr:=bX.frozen 0
      obtain ⟨a3,c3,rfl,-⟩:=(Own.sl hv3).slice_form
      obtain ⟨a4,c4,rfl,-⟩:=(Own.sl hu3).slice_form
      go_wp2_with fail
      have hw2 : w.heap.size < w2.heap.size:=Nat.lt_of_lt_of_le (by simp) ((hE1.trans hE2).size)
      have hS : ExtBut (· = w.heap.size) w3 (w3.setCell ⟨w.heap.size,0,none⟩ (.int .u8 (permOf k))):=ExtBut.setCell w3 ⟨w.heap.size,0,none⟩ _
      replace hF3 : Ext w (w3.setCell ⟨w.heap.size,0,none⟩ (.int .u8 (permOf k))):=hF3.setCell (Nat.le_refl _) _
      replace hv3:=ExtBut.own hv3 hS (fun g hg e=>by have:=(hv3.lt hg).1;omega)
      replace hu3:=ExtBut.own hu3 hS (fun g hg e=>by have:=(hu3.lt hg).1;omega)
      clear hS
      obtain ⟨w4,hw4⟩ : ∃ x,w3.setCell ⟨w.heap.size,0,none⟩ (.int .u8 (permOf k))=x:=⟨_,rfl⟩
      rw [hw4] at hF3 hv3 hu3 ⊢
      clear hw4
      refine (items_Push ⟨permOf k,xt,xc⟩ (Own.sl hv3)).mono ?_
      rintro e w5 ⟨v5,rfl,hv5,hE5⟩
      rw [hpe.out]
      rw [hpo.out] at hv5
      obtain ⟨a5,c5,rfl,-⟩:=(Own.sl hv5).slice_form
      go_wp2
      refine bodyPost_ret (results_tmp4 rfl _ _ _) rfl ?_
      rw [hres.out]
      exact ⟨_,_,rfl,hv5.mono hF3.size,(hu3.ext hE5).mono (Nat.le_of_lt hw2),fun g hg e=>by have h1:=(hv5.lt hg).1;have h2:=(hu3.lt e).2;omega,hF3.trans hE5⟩
     ·
      go_enter Tryz.func120,Tryz.ntmps120
      go_wp2_with fail
      refine (items_Check hL.out).mono ?_
      rintro e w1 ⟨rfl,hE1⟩
      rw [h0.out]
      replace bX:=bX.ext hE1
      go_wp2_with fail
      refine (grant_Writes _ hk).mono ?_
      rintro e w2 ⟨rfl,hE2⟩
      rw [q.out,hwb.out]
      replace bX:=bX.ext hE2
      have b0:=bX.cell 0;have b1:=bX.cell 1;have b2:=bX.cell 2
      go_wp2_with fail
      refine (access_WriteO old ((hL.out.ext hE1).ext hE2)).mono ?_
      rintro e w3 ⟨v3,u3,rfl,hv3,hu3,hd3,hE3⟩
      obtain ⟨e1,e2,e3,e4⟩:=hacc.out true
      rw [e1] at hv3;rw [e2] at hu3;rw [e3,e4,hu'.out]
      clear e1 e2 e3 e4
      replace hd3:=Lib.hid hd3
      have hF3:=((hF.trans hE1).trans hE2).trans hE3
      have hs0 : w.heap.size < w3.heap.size:=Nat.lt_of_lt_of_le (by simp) (((hE1.trans hE2).trans hE3).size)
      replace bX:=bX.ext hE3
      have hPm:=(((hP.out.ext hE1).ext hE2).ext hE3)
      have hcell:=hPm.at hKind.out
      have hk5 : 0≤k∧k < 5:=by rcases kind_yes hKind.out with h | h | h | h <;> omega
      clear hPm b0 b1 b2
      have b0:=bX.cell 0;have b1:=bX.cell 1;have b2:=bX.cell 2;have hfr:=bX.frozen 0
      obtain ⟨a3,c3,rfl,-⟩:=(Own.sl hv3).slice_form
      obtain ⟨a4,c4,rfl,-⟩:=(Own.sl hu3).slice_form
      go_wp2_with fail
      have hw2 : w.heap.size < w2.heap.size:=Nat.lt_of_lt_of_le (by simp) ((hE1.trans hE2).size)
      have hS : ExtBut (· = w.heap.size) w3 (w3.setCell ⟨w.heap.size,0,none⟩ (.int .u8 (permOf k))):=ExtBut.setCell w3 ⟨w.heap.size,0,none⟩ _
      replace hF3 : Ext w (w3.setCell ⟨w.heap.size,0,none⟩ (.int .u8 (permOf k))):=hF3.setCell (Nat.le_refl _) _
      replace hv3:=ExtBut.own hv3 hS (fun g hg e=>by have:=(hv3.lt hg).1;omega)
      replace hu3:=ExtBut.own hu3 hS (fun g hg e=>by have:=(hu3.lt hg).1;omega)
      clear hS
      obtain ⟨w4,hw4⟩ : ∃ x,w3.setCell ⟨w.heap.size,0,none⟩ (.int .u8 (permOf k))=x:=⟨_,rfl⟩
      rw [hw4] at hF3 hv3 hu3 ⊢
      clear hw4
      refine (items_Push ⟨permOf k,xt,xc⟩ (Own.sl hv3)).mono ?_
      rintro e w5 ⟨v5,rfl,hv5,hE5⟩
      rw [hpe.out]
      rw [hpo.out] at hv5
      obtain ⟨a5,c5,rfl,-⟩:=(Own.sl hv5).slice_form
      go_wp2
      refine bodyPost_ret (results_tmp4 rfl _ _ _) rfl ?_
      rw [hres.out]
      exact ⟨_,_,rfl,hv5.mono hF3.size,(hu3.ext hE5).mono (Nat.le_of_lt hw2),fun g hg e=>by have h1:=(hv5.lt hg).1;have h2:=(hu3.lt e).2;omega,hF3.trans hE5⟩
   ·have hu':=Lib.hid hu
    have hres : Hid (retagR l k old ⟨0,xt,xc⟩=([],[],1,0)):=Hid.mk (by rw [hres0.out (by rw [hu];decide),hu])
    clear hu hres0 hres1 hres2
    cases wb
    ·
     go_enter Tryz.func120,Tryz.ntmps120
     go_wp2_with fail
     refine (items_Check hL.out).mono ?_
     rintro e w1 ⟨rfl,hE1⟩
     rw [h0.out]
     replace bX:=bX.ext hE1
     go_wp2_with fail
     refine (grant_Writes _ hk).mono ?_
     rintro e w2 ⟨rfl,hE2⟩
     rw [q.out,hwb.out]
     replace bX:=bX.ext hE2
     have b0:=bX.cell 0;have b1:=bX.cell 1;have b2:=bX.cell 2
     go_wp2_with fail
     refine (access_ReadO old ((hL.out.ext hE1).ext hE2)).mono ?_
     rintro e w3 ⟨v3,u3,rfl,hv3,hu3,hd3,hE3⟩
     obtain ⟨e1,e2,e3,e4⟩:=hacc.out false
     rw [e1] at hv3;rw [e2] at hu3;rw [e3,e4,hu'.out]
     clear e1 e2 e3 e4
     go_wp2
     refine bodyPost_ret (results_tmp4 rfl _ _ _) rfl ?_
     exact retUO_errs hres.out (((hF.trans hE1).trans hE2).trans hE3)
    ·
     go_enter Tryz.func120,Tryz.ntmps120
     go_wp2_with fail
     refine (items_Check hL.out).mono ?_
     rintro e w1 ⟨rfl,hE1⟩
     rw [h0.out]
     replace bX:=bX.ext hE1
     go_wp2_with fail
     refine (grant_Writes _ hk).mono ?_
     rintro e w2 ⟨rfl,hE2⟩
     rw [q.out,hwb.out]
     replace bX:=bX.ext hE2
     have b0:=bX.cell 0;have b1:=bX.cell 1;have b2:=bX.cell 2
     go_wp2_with fail
     refine (access_WriteO old ((hL.out.ext hE1).ext hE2)).mono ?_
     rintro e w3 ⟨v3,u3,rfl,hv3,hu3,hd3,hE3⟩
     obtain ⟨e1,e2,e3,e4⟩:=hacc.out true
     rw [e1] at hv3;rw [e2] at hu3;rw [e3,e4,hu'.out]
     clear e1 e2 e3 e4
     go_wp2
     refine bodyPost_ret (results_tmp4 rfl _ _ _) rfl ?_
     exact retUO_errs hres.out (((hF.trans hE1).trans hE2).trans hE3)
end Go.Proofs.YtnplphcnagooeaaGreatDoor

/- Contracts: the reference's Tagged and Retag (layer 30). -/
namespace Go.Proofs.YtnplphcnagooeaaGreatDoor
set_option maxRecDepth 100000
open Go.RowKit
def tagdL (l : List Item) (k old : Int) (x : Item) : List Item:=if usedW l old (writesOf k)=0 then usedL l old (writesOf k) ++ [⟨permOf k,x.t,x.c⟩] else []
def tagdG (l : List Item) (k old : Int) : List Item:=if usedW l old (writesOf k)=0 then usedG l old (writesOf k) else []
theorem tagd_no {l : List Item} {k old : Int} {x : Item} (h : usedW l old (writesOf k)≠0) : tagdL l k old x=[]∧tagdG l k old=[]:=by simp [tagdL,tagdG,h]
theorem tagd_yes {l : List Item} {k old : Int} {x : Item} (h : usedW l old (writesOf k)=0) : tagdL l k old x=usedL l old (writesOf k) ++ [⟨permOf k,x.t,x.c⟩]∧tagdG l k old=usedG l old (writesOf k):=by simp [tagdL,tagdG,h]
set_option maxHeartbeats 1600000 in
theorem ref30_TaggedO {l : List Item} {k : Int} {v : Value} {w : World} (old : Int) (x : Item) (hl : Its w v l) (hl6 : l.length≤600) :
  Calls Tryz.prog 155 #[v,.int .u8 k,.int .i64 old,x.val] w (RetUO3 w (tagdL l k old x) (tagdG l k old) (usedW l old (writesOf k))):=by
 obtain ⟨a,cp,rfl,-⟩:=hl.form
 obtain ⟨xp,xt,xc⟩:=x
 unfold Item.val
 have bX:=Box.new w 70 #[.int .u8 xp,.int .i64 xt,.int .i64 xc]
 have hF : Ext w (w.alloc (.cells #[.int .u8 xp,.int .i64 xt,.int .i64 xc] 70)):=(Ext.refl _).alloc _
 have hL:=Lib.hid (hl.ext hF)
 clear hl
 obtain ⟨wb,hwb⟩ : ∃ wb,writesOf k=wb:=⟨_,rfl⟩
 have hl1 : (usedL l old wb).length≤600:=Nat.le_trans usedL_len hl6
 rcases usedW_cases l old wb with ⟨hu,-⟩ | ⟨hu,-⟩
 ·have hT:=Lib.hid (tagd_yes (l:=l) (k:=k) (old:=old) (x:=⟨xp,xt,xc⟩) (by rw [hwb];exact hu))
  rw [hwb] at hT ⊢
  replace hwb:=Lib.hid hwb
  obtain ⟨M,hM⟩ : ∃ M,usedL l old wb=M:=⟨_,rfl⟩
  obtain ⟨G,hG⟩ : ∃ G,usedG l old wb=G:=⟨_,rfl⟩
  rw [hM] at hT hl1
  rw [hG] at hT
  rw [hu]
  replace hM:=Lib.hid hM
  replace hG:=Lib.hid hG
  replace hu:=Lib.hid hu
  go_enter Tryz.func155,Tryz.ntmps155
  go_wp2_with fail
  refine (ref30_Wrote _ _).mono ?_
  rintro e w1 ⟨rfl,rfl⟩
  rw [hwb.out]
  go_wp2_with fail
  refine (ref29_UsedO old wb hL.out hl6).mono ?_
  rintro e w1 ⟨v1,u1,rfl,hv1,hu1,hd1,hE1⟩
  rw [hM.out] at hv1
  rw [hG.out] at hu1
  rw [hu.out]
  replace hd1:=Lib.hid hd1
  replace bX:=bX.ext hE1
  have hF1:=hF.trans hE1
  have hs1:=hF1.size
  have hsz : w.heap.size < w1.heap.size:=Nat.lt_of_lt_of_le (by simp) hE1.size
  have hlt : (w.alloc (.cells #[.int .u8 xp,.int .i64 xt,.int .i64 xc] 70)).heap.size=w.heap.size+1:=by simp
  rw [hlt] at hv1 hu1
  clear hlt
  have d1 : w1.cell? ⟨w.heap.size,1,none⟩=some (.int .i64 xt):=bX.cell 1
  have d2 : w1.cell? ⟨w.heap.size,2,none⟩=some (.int .i64 xc):=bX.cell 2
  obtain ⟨a1,c1,rfl,-⟩:=(Own.sl hv1).slice_form
  obtain ⟨a2,c2,rfl,-⟩:=(Own.sl hu1).slice_form
  replace hu1:=Lib.hid hu1
  obtain ⟨i,z,hi,hz,hi3,hz3,hby⟩:=Item.infoE
  have hi':=Lib.hid hi;have hz':=Lib.hid hz;have hi3':=Lib.hid hi3;have hz3':=Lib.hid hz3;have hby':=Lib.hid hby
  clear hi hz hi3 hz3 hby
  go_wp2
  have hS0 : ∀ w' : World,Ext w1 w'→(w'.cell? ⟨w.heap.size,1,none⟩=some (.int .i64 xt)∧w'.cell? ⟨w.heap.size,2,none⟩=some (.int .i64 xc))∧ExtBut (fun b=>w.heap.size+1≤b) w1 w':=fun w' h=>⟨⟨h.cell d1,h.cell d2⟩,ExtBut.of_ext h⟩
  have hS1 : ∀ w' w'' : World,Ext w1 w'→Keeps w' w'' (w.heap.size+1) (.slice a1 M.length c1)→(w''.cell? ⟨w.heap.size,1,none⟩=some (.int .i64 xt)∧w''.cell? ⟨w.heap.size,2,none⟩=some (.int .i64 xc))∧ExtBut (fun b=>w.heap.size+1≤b) w1 w'':=by
   intro w' w'' h hK
   have hX : ExtBut (fun b=>w.heap.size+1≤b) w' w'':=(ExtBut.of_keeps hK).mono fun b _ hb=>(hv1.lt hb).1
   exact ⟨⟨hX.cell (h.cell d1) (by simp),hX.cell (h.cell d2) (by simp)⟩,(ExtBut.of_ext h).trans hX⟩
  go_region_held3 (fun w'=>(w'.cell? ⟨w.heap.size,1,none⟩=some (.int .i64 xt)∧w'.cell? ⟨w.heap.size,2,none⟩=some (.int .i64 xc))∧ExtBut (fun b=>w.heap.size+1≤b) w1 w') (first | exact hS0 _ (Ext.refl _).drew | exact hS0 _ (Ext.refl _) | exact hS0 _ ((Ext.refl _).alloc _).drew | exact hS0 _ ((Ext.refl _).alloc _) | exact hS1 _ _ ((Ext.refl _).alloc _).drew hK' | exact hS1 _ _ ((Ext.refl _).alloc _) hK') (first | (go_at_call 161;refine (ref30_Given _ _).mono ?_;rintro e w3 ⟨rfl,rfl⟩) | (rw [if_pos (by rfl)];refine wp_append_any (.tmp 26) (.tmp 34) 72 72 rfl rfl rfl (B:=w.heap.size+1) (e:=70) (n:=M.length) (m:=1) (xs:=M.flatMap Item.row) (ys:=[.int .u8 (permOf k),.int .i64 xt,.int .i64 xc]) Tryz.underlying72 Tryz.underlying72 hi'.out hz'.out hi3'.out hz3'.out ?_ ?_ ?_ ?_ ?_ ?_ ?_;(first | exact hv1.ext ((Ext.refl _).alloc _).drew | exact hv1.ext ((Ext.refl _).alloc _));(first | exact ((Own.lit (B:=0) (e:=70) (k:=3) _ #[.int .u8 (permOf k),.int .i64 xt,.int .i64 xc] 1 (Nat.zero_le _) (by simp [maxLen]) rfl).sl.ext (Ext.refl _).drew) | exact (Own.lit (B:=0) (e:=70) (k:=3) _ #[.int .u8 (permOf k),.int .i64 xt,.int .i64 xc] 1 (Nat.zero_le _) (by simp [maxLen]) rfl).sl);(simp [Value.oneCell']);(simp [maxLen];omega);(rw [hby'.out];omega);(simp;omega);intro v' w' hO' hK' hb' _))
  all_goals
   have hEA : Ext w1 (w1.alloc (.cells #[.int .u8 (permOf k),.int .i64 xt,.int .i64 xc] 70)).drew:=((Ext.refl _).alloc _).drew
   have hK : Keeps (w1.alloc (.cells #[.int .u8 (permOf k),.int .i64 xt,.int .i64 xc] 70)).drew w' (w.heap.size+1) (.slice a1 M.length c1):=hK'
   have hb : v'.ownBlock=(Value.slice a1 M.length c1).ownBlock ∨ ∃ g,v'.ownBlock=some g∧w1.heap.size≤g:=by
    rcases hb' with h | ⟨g,h1,h2⟩
    ·exact .inl h
    ·exact .inr ⟨g,h1,Nat.le_trans hEA.size h2⟩
   have hX : ExtBut (fun b=>w.heap.size+1≤b) w1 w':=And.right (by assumption : (w'.cell? ⟨w.heap.size,1,none⟩=some (.int .i64 xt)∧w'.cell? ⟨w.heap.size,2,none⟩=some (.int .i64 xc))∧ExtBut (fun b=>w.heap.size+1≤b) w1 w')
   have hO:=Lib.hid hO'
   replace hK:=Lib.hid hK
   replace hb:=Lib.hid hb
   replace hEA:=Lib.hid hEA
   replace hX:=Lib.hid hX
   clear hO' hK' hb' hS0 hS1
   go_wp2
   go_ret3
   rw [hT.out.1,hT.out.2]
   refine ⟨_,_,rfl,?_,?_,?_,ExtBut.ext hF1 hX.out (fun b hb=>by omega)⟩
   ·rw [List.length_append,List.flatMap_append]
    exact hO.out.mono (Nat.le_succ _)
   ·exact (ExtBut.own (hu1.out.ext hEA.out) (ExtBut.of_keeps hK.out) (fun g hg e=>hd1.out g e hg)).mono (Nat.le_succ _)
   ·intro g hg e
    rcases hb.out with h | ⟨g',h1,h2⟩
    ·exact hd1.out g (h ▸ hg) e
    ·have h1' : v'.ownBlock=some g:=hg
     rw [h1] at h1'
     cases h1'
     have:=(hu1.out.lt e).2
     omega
 ·have hT:=Lib.hid (tagd_no (l:=l) (k:=k) (old:=old) (x:=⟨xp,xt,xc⟩) (by rw [hwb,hu];decide))
  rw [hwb,hu]
  replace hwb:=Lib.hid hwb
  replace hu:=Lib.hid hu
  go_enter Tryz.func155,Tryz.ntmps155
  go_wp2_with fail
  refine (ref30_Wrote _ _).mono ?_
  rintro e w1 ⟨rfl,rfl⟩
  rw [hwb.out]
  go_wp2_with fail
  refine (ref29_UsedO old wb hL.out hl6).mono ?_
  rintro e w1 ⟨v1,u1,rfl,hv1,hu1,hd1,hE1⟩
  rw [hu.out]
  clear hv1 hu1 hd1
  go_wp2
  go_ret3
  rw [hT.out.1,hT.out.2]
  exact ⟨_,_,rfl,Own.nil _ _ _ _,Own.nil _ _ _ _,(fun g h=>by cases h),hF.trans hE1⟩
set_option maxHeartbeats 1600000 in
theorem ref30_RetagO {l : List Item} {k : Int} {v : Value} {w : World} (hk : u8B k) (old : Int) (x : Item) (hl : Its w v l) :
  Calls Tryz.prog 147 #[v,.int .u8 k,.int .i64 old,x.val] w (RetUO w (retagR l k old x).1 (retagR l k old x).2.1 (retagR l k old x).2.2.1 (retagR l k old x).2.2.2):=by
 obtain ⟨a,cp,rfl,-⟩:=hl.form
 obtain ⟨xp,xt,xc⟩:=x
 unfold Item.val
 have bX:=Box.new w 70 #[.int .u8 xp,.int .i64 xt,.int .i64 xc]
 have hF : Ext w (w.alloc (.cells #[.int .u8 xp,.int .i64 xt,.int .i64 xc] 70)):=(Ext.refl _).alloc _
 have hL:=Lib.hid (hl.ext hF)
 clear hl
 cases hok : okS l
 ·have h8 : Hid (chk l=8):=Hid.mk (by simp [chk,hok])
  have hres:=Lib.hid (retagR_bad (k:=k) (old:=old) (x:=⟨xp,xt,xc⟩) hok)
  clear hok bX
  go_enter Tryz.func147,Tryz.ntmps147
  go_wp2_with fail
  refine (ref28_Check hL.out).mono ?_
  rintro e w1 ⟨rfl,hE1⟩
  rw [h8.out]
  go_wp2
  refine bodyPost_ret (results_tmp4 rfl _ _ _) rfl ?_
  exact retUO_errs hres.out (hF.trans hE1)
 ·have h0 : Hid (chk l=0):=Hid.mk (by simp [chk,hok])
  have hl6 : l.length≤600:=by simp [okS] at hok;omega
  cases ha : kindOk k && argOk ⟨xp,xt,xc⟩
  ·have hres:=Lib.hid (retagR_arg (old:=old) hok ha)
   clear hok
   have hcase : (kindErr k=2)∨(kindErr k=0∧(inB xt=false∨(inB xt=true∧(inB xc=false∨(inB xc=true∧(xp != 0)=true))))):=by
    cases h1 : kindOk k
    ·exact .inl (kindErr_no h1)
    ·refine .inr ⟨kindErr_yes h1,?_⟩
     rw [h1,Bool.true_and] at ha
     unfold argOk at ha
     simp only at ha
     by_cases hp : xp=0
     ·subst hp
      cases h2 : inB xt <;> cases h3 : inB xc <;> simp_all
     ·cases h2 : inB xt <;> cases h3 : inB xc <;> simp_all
   clear ha
   rcases hcase with q | ⟨q,q0 | ⟨q0,q1 | ⟨q1,q2⟩⟩⟩
   all_goals
    replace q:=Lib.hid q
    go_enter Tryz.func147,Tryz.ntmps147
    go_wp2_with fail
    refine (ref28_Check hL.out).mono ?_
    rintro e w1 ⟨rfl,hE1⟩
    rw [h0.out]
    replace bX:=bX.ext hE1
    have b0:=bX.cell 0;have b1:=bX.cell 1;have b2:=bX.cell 2
    go_wp2_with (first | (go_at_call 51;refine (ref30_Check _ hk).mono ?_;rintro e w2 ⟨rfl,rfl⟩;rw [q.out]) | (go_at_call 121;refine (ref28_In _ _).mono ?_;rintro e w2 ⟨rfl,rfl⟩))
    refine bodyPost_ret (results_tmp4 rfl _ _ _) rfl ?_
    exact retUO_errs hres.out (hF.trans hE1)
  ·have hkk : kindOk k=true∧argOk ⟨xp,xt,xc⟩=true:=by simpa using ha
   have q:=Lib.hid (kindErr_yes hkk.1)
   have ha2:=hkk.2
   unfold argOk at ha2
   simp only [Bool.and_eq_true,beq_iff_eq] at ha2
   obtain ⟨⟨rfl,q0⟩,q1⟩:=ha2
   have hres0 : Hid (usedW l old (writesOf k)≠0→retagR l k old ⟨0,xt,xc⟩=([],[],usedW l old (writesOf k),0)):=Hid.mk (retagR_no hok ha)
   have hres1 : Hid (usedW l old (writesOf k)=0→(usedL l old (writesOf k)).length=600→retagR l k old ⟨0,xt,xc⟩=([],[],0,18)):=Hid.mk (retagR_full hok ha)
   have hres2 : Hid (usedW l old (writesOf k)=0 → ¬ (usedL l old (writesOf k)).length=600→retagR l k old ⟨0,xt,xc⟩=(usedL l old (writesOf k) ++ [⟨permOf k,xt,xc⟩],usedG l old (writesOf k),0,0)):=Hid.mk (retagR_yes hok ha)
   have hle : Hid ((usedL l old (writesOf k)).length≤600):=Hid.mk (Nat.le_trans usedL_len hl6)
   clear hok ha hkk
   obtain ⟨T,hT⟩ : ∃ T,tagdL l k old ⟨0,xt,xc⟩=T:=⟨_,rfl⟩
   obtain ⟨G,hG⟩ : ∃ G,tagdG l k old=G:=⟨_,rfl⟩
   obtain ⟨u,hu⟩ : ∃ u,usedW l old (writesOf k)=u:=⟨_,rfl⟩
   have hcase : (600 < T.length∧retagR l k old ⟨0,xt,xc⟩=([],[],0,18))∨(T.length≤600∧retagR l k old ⟨0,xt,xc⟩=(T,G,u,0)):=by
    by_cases h : usedW l old (writesOf k)=0
    ·have e1:=(tagd_yes (x:=⟨0,xt,xc⟩) h).1
     have e2:=(tagd_yes (x:=⟨0,xt,xc⟩) h).2
     by_cases hf : (usedL l old (writesOf k)).length=600
     ·exact .inl ⟨by rw [← hT,e1];simp;omega,hres1.out h hf⟩
     ·refine .inr ⟨by rw [← hT,e1];have:=hle.out;simp;omega,?_⟩
      rw [hres2.out h hf,← hT,e1,← hG,e2,← hu,h]
    ·have e1:=(tagd_no (x:=⟨0,xt,xc⟩) h).1
     have e2:=(tagd_no (x:=⟨0,xt,xc⟩) h).2
     exact .inr ⟨by rw [← hT,e1];simp,by rw [hres0.out h,← hT,e1,← hG,e2,← hu]⟩
   replace hT:=Lib.hid hT
   replace hG:=Lib.hid hG
   replace hu:=Lib.hid hu
   clear hres0 hres1 hres2 hle
   rcases hcase with ⟨hn,hres⟩ | ⟨hn,hres⟩
   all_goals
    replace hres:=Lib.hid hres
    go_enter Tryz.func147,Tryz.ntmps147
    go_wp2_with fail
    refine (ref28_Check hL.out).mono ?_
    rintro e w1 ⟨rfl,hE1⟩
    rw [h0.out]
    replace bX:=bX.ext hE1
    have b0:=bX.cell 0;have b1:=bX.cell 1;have b2:=bX.cell 2
    go_wp2_with (first | (go_at_call 51;refine (ref30_Check _ hk).mono ?_;rintro e w2 ⟨rfl,rfl⟩;rw [q.out]) | (go_at_call 121;refine (ref28_In _ _).mono ?_;rintro e w2 ⟨rfl,rfl⟩) | (go_at_call 155;refine (ref30_TaggedO (k:=k) old ⟨0,xt,xc⟩ (hL.out.ext hE1) hl6).mono ?_;rintro e w3 ⟨v3,u3,rfl,hv3,hu3,hd3,hE3⟩;rw [hT.out] at hv3;rw [hG.out] at hu3;rw [hu.out];replace hd3:=Lib.hid hd3;obtain ⟨a3,c3,rfl,-⟩:=(Own.sl hv3).slice_form;obtain ⟨a4,c4,rfl,-⟩:=(Own.sl hu3).slice_form))
    refine bodyPost_ret (results_tmp4 rfl _ _ _) rfl ?_
    first
     | exact retUO_errs hres.out ((hF.trans hE1).trans hE3)
     | (rw [hres.out];exact ⟨_,_,rfl,hv3.mono ((hF.trans hE1).size),hu3.mono ((hF.trans hE1).size),hd3.out,(hF.trans hE1).trans hE3⟩)
end Go.Proofs.YtnplphcnagooeaaGreatDoor
