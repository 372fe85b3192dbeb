/- Several texts in one: DeaA, DeaB, MonF, MonI, MonG, MonJ, RegInv, RegInw, RegInt. -/
import Derived.Test.YtnplphcnagooeaaGreatDoorQ08
import Derived.WalkMore
import Derived.Deep.LoopGhost
import Derived.Test.YtnplphcnagooeaaGreatDoorQ02
import Derived.Test.YtnplphcnagooeaaGreatDoorQ06
import Derived.Test.YtnplphcnagooeaaGreatDoorQ01
import Derived.Orders
/- Contracts: the held items of layer 34: holds, free. (printed by gen/dea34.py) -/
namespace Go.Proofs.YtnplphcnagooeaaGreatDoor
set_option maxRecDepth 100000
open Go.RowKit
def freeB (l : List (List Item)) (run : List Int) : Bool := !(l.any fun s=>s.any (heldBy run))
theorem search_endC {l : List Int} {t : Int} (hs : okFrom 0 l=true) {i : Nat} (hlo : ∀ k x,k < i→l[k]? = some x→x < t) (hhi : ∀ k x,i≤k→l[k]? = some x→t≤x) : l.contains t=(l[i]? == some t):=by
 cases h : l.contains t
 ·cases h2 : (l[i]? == some t)
  ·rfl
  ·have h3 : l[i]? = some t:=by simpa using h2
   have:=List.mem_of_getElem? h3
   have h4 : l.contains t=true:=by simpa using this
   rw [h] at h4;cases h4
 ·have hm : t ∈ l:=by simpa using h
  obtain ⟨k,hk⟩:=List.mem_iff_getElem?.1 hm
  rcases Nat.lt_trichotomy k i with h1 | h1 | h1
  ·have:=hlo k t h1 hk;omega
  ·subst h1;simp [hk]
  ·have hlt : i < l.length:=by have:=(List.getElem?_eq_some_iff.1 hk).1;omega
   have h5 : l[i]? = some l[i]:=by simp [hlt]
   have:=hhi i _ (Nat.le_refl _) h5
   have:=okFrom_lt hs h1 h5 hk
   omega
set_option maxHeartbeats 1600000 in
theorem binarySearchC {l : List Int} {v : Value} {w : World} (t : Int) (hl : Nts w v l) (hs : okFrom 0 l=true) (hlen : l.length≤1000) :
  Calls Tryz.prog 136 #[v,.int .i64 t] w (RetIB (hasR l t) w):=by
 obtain ⟨a,cp,rfl,hlc,hcm,-⟩:=hl.form
 unfold maxLen at hcm
 have hL:=Lib.hid hl
 have hS:=Lib.hid hs
 clear hl hs
 go_enter Tryz.func136,Tryz.ntmps136
 go_wp2
 go_loop [7,8] (fun iv jv => ∃ i j : Nat,i≤j∧j≤l.length∧iv = .int .i64 i∧jv = .int .i64 j∧Hid ((∀ k x,k < i→l[k]? = some x→x < t)∧(∀ k x,j≤k→l[k]? = some x→t≤x))) (fun iv jv=>(intOf jv).toNat - (intOf iv).toNat)
 case atStart=>exact ⟨0,l.length,Nat.zero_le _,Nat.le_refl _,rfl,rfl,⟨fun k x h=>by omega,fun k x h hx=>by rw [List.getElem?_eq_none h] at hx;cases hx⟩⟩
 case round =>
  obtain ⟨i,j,hij,hj,rfl,rfl,hN⟩:=hrel
  by_cases hlt : i < j
  ·obtain ⟨x,hx⟩ : ∃ x,l[(i+j) / 2]? = some x:=⟨l[(i+j) / 2]'(by omega),by simp⟩
   obtain ⟨b,off,rfl,hb,c0⟩:=hL.out.cell hx
   have hi0 : (0 : Int)≤((i : Int)+(j : Int)) / 2:=by omega
   have hi1 : ((i : Int)+(j : Int)) / 2 < (l.length : Int):=by omega
   have hmid : Hid (i≤(i+j) / 2∧(i+j) / 2 < j):=Hid.mk (by omega)
   by_cases hxt : x < t
   ·have hq : Hid (decide (x < t)=true):=Hid.mk (decide_eq_true hxt)
    have hR : Hid ((∀ k y,k < (i+j) / 2+1→l[k]? = some y→y < t)∧(∀ k y,j≤k→l[k]? = some y→t≤y)):=Hid.mk ⟨fun k y hk hy=>by
     rcases Nat.lt_or_eq_of_le (Nat.lt_succ_iff.1 hk) with h1 | h1
     ·have:=okFrom_lt hS.out h1 hy hx;omega
     ·subst h1;rw [hx] at hy;cases hy;exact hxt,hN.out.2⟩
    clear hx hxt
    go_wp2_with fail
    refine (cmp_Less _ _ _).mono ?_
    rintro e w' ⟨rfl,rfl⟩
    rw [hq.out]
    go_wp2
    go_round
    case rel=>exact ⟨(i+j) / 2+1,j,by have:=hmid.out;omega,hj,by congr 1,rfl,hR.out⟩
    case measure=>have:=hmid.out;simp [intOf];omega
   ·have hq : Hid (decide (x < t)=false):=Hid.mk (decide_eq_false hxt)
    have hR : Hid ((∀ k y,k < i→l[k]? = some y→y < t)∧(∀ k y,(i+j) / 2≤k→l[k]? = some y→t≤y)):=Hid.mk ⟨hN.out.1,fun k y hk hy=>by
     rcases Nat.lt_or_eq_of_le hk with h1 | h1
     ·have:=okFrom_lt hS.out h1 hx hy;omega
     ·subst h1;rw [hx] at hy;cases hy;omega⟩
    clear hx hxt
    go_wp2_with fail
    refine (cmp_Less _ _ _).mono ?_
    rintro e w' ⟨rfl,rfl⟩
    rw [hq.out]
    go_wp2
    go_round
    case rel=>exact ⟨i,(i+j) / 2,by have:=hmid.out;omega,by have:=hmid.out;omega,rfl,by congr 1,hR.out⟩
    case measure=>have:=hmid.out;simp [intOf];omega
  ·obtain rfl : i=j:=by omega
   have hend:=search_endC hS.out hN.out.1 hN.out.2
   by_cases hil : i < l.length
   ·obtain ⟨x,hx⟩ : ∃ x,l[i]? = some x:=⟨l[i],by simp [hil]⟩
    obtain ⟨b,off,rfl,hb,c0⟩:=hL.out.cell hx
    have hi0 : (0 : Int)≤(i : Int):=by omega
    have hi1 : (i : Int) < (l.length : Int):=by omega
    have hd : decide ((i : Int) < (l.length : Int))=true:=decide_eq_true (by omega)
    rw [hx] at hend
    have hend' : Hid (hasR l t=(x == t)):=Hid.mk (by rw [hasR,hend];rfl)
    clear hx hend
    cases hxt : x == t
    ·rw [hxt] at hend'
     go_wp2_with (go_at_call 149;refine (slices_isNaN _ _).mono ?_;rintro e w' ⟨rfl,rfl⟩)
     go_ret2
     exact ⟨_,by rw [hend'.out];rfl,rfl⟩
    ·rw [hxt] at hend'
     go_wp2_with (go_at_call 149;refine (slices_isNaN _ _).mono ?_;rintro e w' ⟨rfl,rfl⟩)
     go_ret2
     exact ⟨_,by rw [hend'.out];rfl,rfl⟩
   ·have hd : decide ((i : Int) < (l.length : Int))=false:=decide_eq_false (by omega)
    rw [List.getElem?_eq_none (by omega)] at hend
    have hend' : Hid (hasR l t=false):=Hid.mk (by rw [hasR,hend];rfl)
    clear hend
    go_wp2
    go_ret2
    exact ⟨_,by rw [hend'.out];rfl,rfl⟩
set_option maxHeartbeats 400000 in
theorem dealloc_holds {run : List Int} {v : Value} {w : World} (x : Item) (hl : Nts w v run) (hok : okR run=true) :
  Calls Tryz.prog 123 #[v,x.val] w fun e w'=>e = .returned (.bool (heldBy run x))∧Ext w w':=by
 obtain ⟨p,t,c⟩:=x
 have hE:=(Ext.refl w).alloc (.cells #[.int .u8 p,.int .i64 t,.int .i64 c] 70)
 have hBS:=Lib.hid (binarySearchC c (hl.ext hE) (okR_from hok) (by have:=okR_len hok;omega))
 obtain ⟨a,cp,rfl,-⟩:=hl.form
 clear hl hok
 unfold Item.val
 go_enter Tryz.func123,Tryz.ntmps123
 go_wp2_with fail
 refine hBS.out.mono ?_
 rintro e w1 ⟨i,rfl,rfl⟩
 go_wp2
 go_ret
 exact ⟨rfl,hE⟩
set_option maxHeartbeats 1600000 in
theorem dealloc_free {l : List (List Item)} {run : List Int} {num : Int} {s v : Value} {w : World} (hl : Sts w s l) (hr : Nts w v run) (hok : okR run=true) :
  Calls Tryz.prog 110 #[.agg #[.int .i64 num,s],v] w fun e w'=>e = .returned (.bool (freeB l run))∧Ext w w':=by
 have hE0:=(Ext.refl w).alloc (.cells #[.int .i64 num,s] 68)
 have hl0:=hl.ext hE0
 have hr0:=hr.ext hE0
 obtain ⟨a,cp,rfl,hlc,hcm,-⟩:=hl.form
 obtain ⟨a2,cp2,rfl,-⟩:=hr.form
 unfold maxLen at hcm
 have hW:=Lib.hid hl0
 have hR:=Lib.hid hr0
 replace hok:=Lib.hid hok
 clear hl hl0 hr hr0
 go_enter Tryz.func110,Tryz.ntmps110
 go_wp2
 go_step3
 go_wp2
 go_step3
 go_wp2
 obtain ⟨w1,hw1⟩ : ∃ w1,w.alloc (.cells #[.int .i64 num,.slice a l.length cp] 68)=w1:=⟨_,rfl⟩
 rw [hw1] at hE0 hW hR ⊢
 clear hw1
 go_loopw [6,16] (fun ov iv wr => ∃ k : Nat,k≤l.length∧iv = .int .i64 k∧ov = .bool true∧Ext w1 wr∧Hid ((l.take k).any (fun s=>s.any (heldBy run))=false)) (fun _ iv _=>l.length - (intOf iv).toNat)
 case atStart=>exact ⟨0,Nat.zero_le _,rfl,rfl,Ext.refl _,by simp [Hid]⟩
 case round =>
  obtain ⟨k,hk,rfl,rfl,hE,hN⟩:=hrel
  by_cases hlt : k < l.length
  ·obtain ⟨x,hx⟩ : ∃ x,l[k]? = some x:=⟨l[k],by simp [hlt]⟩
   obtain ⟨b,off,sv,rfl,hbb,d0,hcl⟩:=(hW.out.ext hE).cell hx
   have hX:=Lib.hid hx
   obtain ⟨ca,ccp,rfl,hclc,hccm,-⟩:=hcl.form
   unfold maxLen at hccm
   have hC:=Lib.hid hcl
   clear hx hbb hcl
   go_wp2
   obtain ⟨w2,hw2⟩ : ∃ w2,wr=w2:=⟨_,rfl⟩
   have hE2 : Ext w1 w2:=hw2 ▸ hE
   have hC2 : Hid (Its w2 (.slice ca x.length ccp) x):=hw2 ▸ hC
   rw [hw2]
   clear hw2 hC
   go_loopw [6,22] (fun ov jv wq => ∃ j : Nat,j≤x.length∧jv = .int .i64 j∧ov = .bool true∧Ext w2 wq∧Hid ((x.take j).any (heldBy run)=false)) (fun _ jv _=>x.length - (intOf jv).toNat)
   case atStart=>exact ⟨0,Nat.zero_le _,rfl,rfl,Ext.refl _,by simp [Hid]⟩
   case round =>
    obtain ⟨j,hj,rfl,rfl,hY,hM⟩:=hrel
    by_cases hjl : j < x.length
    ·obtain ⟨y,hy⟩ : ∃ y,x[j]? = some y:=⟨x[j],by simp [hjl]⟩
     obtain ⟨b2,off2,rfl,hbb2,c0,c1,c2⟩:=(hC2.out.ext hY).cell hy
     have hYl:=Lib.hid hy
     obtain ⟨yp,yt,yc⟩:=y
     have hEa:=(Ext.refl wr).alloc (.cells #[.int .u8 yp,.int .i64 yt,.int .i64 yc] 70)
     clear hy hbb2
     cases hh : heldBy run ⟨yp,yt,yc⟩
     ·have hh':=Lib.hid hh
      have hM2:=Lib.hid (sany_take_succ hM.out hYl.out hh)
      clear hh
      go_wp2_with fail
      refine (dealloc_holds ⟨yp,yt,yc⟩ (((hR.out.ext hE2).ext hY).ext hEa) hok.out).mono ?_
      rintro e w4 ⟨rfl,hE4⟩
      rw [hh'.out]
      go_wp2
      go_roundw
      case rel=>exact ⟨j+1,by omega,by go_num,rfl,(hY.trans hEa).trans hE4,hM2.out⟩
      case measure=>simp [intOf];omega
     ·have hh':=Lib.hid hh
      have hres : Hid (freeB l run=false):=Hid.mk (by unfold freeB;rw [sany_hit hX.out (sany_hit hYl.out hh)];rfl)
      clear hh
      go_wp2_with fail
      refine (dealloc_holds ⟨yp,yt,yc⟩ (((hR.out.ext hE2).ext hY).ext hEa) hok.out).mono ?_
      rintro e w4 ⟨rfl,hE4⟩
      rw [hh'.out]
      go_wp2
      (try rw [Exit.noGoto_ret])
      go_ret
      exact ⟨by rw [hres.out] <;> rfl,(((hE0.trans hE2).trans hY).trans hEa).trans hE4⟩
    ·have hje : j=x.length:=by omega
     subst hje
     have hN2:=Lib.hid (sany_take_succ (p:=fun s : List Item=>s.any (heldBy run)) hN.out hX.out (by have:=hM.out;rwa [List.take_length] at this))
     go_wp2
     go_roundw
     case rel=>exact ⟨k+1,by omega,by go_num,rfl,hE2.trans hY,hN2.out⟩
     case measure=>simp [intOf];omega
  ·have hkl : k=l.length:=by omega
   subst hkl
   have hres : Hid (freeB l run=true):=Hid.mk (by
    unfold freeB
    have:=hN.out
    rw [List.take_length] at this
    rw [this];rfl)
   go_wp2
   (try rw [Exit.noGoto_ret])
   go_ret
   exact ⟨by rw [hres.out] <;> rfl,hE0.trans hE⟩
end Go.Proofs.YtnplphcnagooeaaGreatDoor

/- Contracts: Protects, End, All of layer 34, the program's and the reference's. (printed by gen/dea34.py) -/
namespace Go.Proofs.YtnplphcnagooeaaGreatDoor
set_option maxRecDepth 100000
open Go.RowKit
def askErr (x : Stk) (run : List Int) : Int:=if okR run then stkErr x else 8
def endR34 (x : Stk) (run : List Int) : Int × Int:=if askErr x run=0 then (if freeB x.cells run then 0 else 2,0) else (0,askErr x run)
theorem askErr_cases (x : Stk) (run : List Int) : askErr x run=8∨(askErr x run=0∧okR run=true∧okK x=true):=by
 unfold askErr
 cases h : okR run
 ·exact .inl (by simp)
 ·cases hk : okK x
  ·exact .inl (by simp [stkErr_bad hk])
  ·exact .inr ⟨by simp [stkErr_ok hk],rfl,rfl⟩
theorem okK_small {x : Stk} (h : okK x=true) : x.cells.length≤2 ∧ ∀ s ∈ x.cells,s.length≤600:=by
 unfold okK at h
 simp only [Bool.and_eq_true,decide_eq_true_eq] at h
 refine ⟨h.1.2,fun s hs => ?_⟩
 have:=List.all_eq_true.1 h.2 s hs
 unfold okS at this
 simp only [Bool.and_eq_true,decide_eq_true_eq] at this
 exact this.1
set_option maxHeartbeats 800000 in
theorem dealloc_asked {l : List (List Item)} {num : Int} {run : List Int} {s v : Value} {w : World} (hl : Sts w s l) (hr : Nts w v run) :
  Calls Tryz.prog 109 #[.agg #[.int .i64 num,s],v] w fun e w'=>e = .returned (.int .i64 (askErr ⟨num,l⟩ run))∧Ext w w':=by
 have hE0:=(Ext.refl w).alloc (.cells #[.int .i64 num,s] 68)
 have hl0:=hl.ext hE0
 have hr0:=hr.ext hE0
 obtain ⟨a,cp,rfl,-⟩:=hl.form
 obtain ⟨a2,cp2,rfl,-⟩:=hr.form
 have bM:=Box.new w 68 #[.int .i64 num,.slice a l.length cp]
 clear hl hr
 cases hok : okR run
 ·have h8:=Lib.hid (runErr_bad hok)
  have hres : Hid (askErr ⟨num,l⟩ run=8):=Hid.mk (by simp [askErr,hok])
  clear hok
  go_enter Tryz.func109,Tryz.ntmps109
  go_wp2_with fail
  refine (guard_Check hr0).mono ?_
  rintro e w1 ⟨rfl,rfl⟩
  rw [h8.out]
  go_wp2
  go_ret
  exact ⟨by rw [hres.out] <;> rfl,hE0⟩
 ·have h0:=Lib.hid (runErr_ok hok)
  have hres : Hid (askErr ⟨num,l⟩ run=stkErr ⟨num,l⟩):=Hid.mk (by simp [askErr,hok])
  clear hok
  go_enter Tryz.func109,Tryz.ntmps109
  go_wp2_with fail
  refine (guard_Check hr0).mono ?_
  rintro e w1 ⟨rfl,rfl⟩
  rw [h0.out]
  go_wp2_with fail
  refine (stacks_Check hl0).mono ?_
  rintro e w2 ⟨rfl,hE2⟩
  go_wp2
  go_ret
  exact ⟨by rw [hres.out] <;> rfl,hE0.trans hE2⟩
end Go.Proofs.YtnplphcnagooeaaGreatDoor

/- What the functions of layer 35 on a monitor's life compute (Alloc, Enter, Leave, End, Forget), and plain laws of valid monitors; no program in sight. -/
namespace Go.Proofs.YtnplphcnagooeaaGreatDoor
set_option maxRecDepth 100000
open Go.RowKit
def Ptr.zero : Ptr:=⟨0,0,0⟩
def allocM (m : Mon) (size : Int) : Mon × Ptr × Int :=
 if okMon m then
  if (addR m.mem size).2.2=0 then
   if m.tag=1000000 then (Mon.zero,Ptr.zero,18)
   else (⟨(addR m.mem size).1,m.stks ++ [⟨(addR m.mem size).2.1,based size.toNat m.tag⟩],m.run,m.tag+1,m.call⟩,⟨(addR m.mem size).2.1,0,m.tag⟩,0)
  else (Mon.zero,Ptr.zero,(addR m.mem size).2.2)
 else (Mon.zero,Ptr.zero,8)
def enterM (m : Mon) : Mon × Int × Int :=
 if okMon m then if m.run.length=32∨m.call=1000000 then (Mon.zero,0,18) else (⟨m.mem,m.stks,m.run ++ [m.call],m.tag,m.call+1⟩,m.call,0) else (Mon.zero,0,8)
def leaveM (m : Mon) : Mon × Int :=
 if okMon m then if m.run.length=0 then (Mon.zero,6) else (⟨m.mem,m.stks,m.run.take (m.run.length - 1),m.tag,m.call⟩,0) else (Mon.zero,8)
def endedK (x : Stk) : Stk:=⟨x.num,List.replicate x.cells.length []⟩
def endM (m : Mon) (n : Int) : Mon × Int × Int :=
 if okMon m then
  match atNum m.mem.al n with
  | none=>(Mon.zero,0,6)
  | some i =>
   if (m.mem.al.getD i Alloc.zero).live then
    if (endR34 (m.stks.getD i Stk.zero) m.run).1=0 then (⟨⟨endAt m.mem.al i,m.mem.next⟩,m.stks.set i (endedK (m.stks.getD i Stk.zero)),m.run,m.tag,m.call⟩,0,0)
    else (Mon.zero,(endR34 (m.stks.getD i Stk.zero) m.run).1,0)
   else (Mon.zero,0,6)
 else (Mon.zero,0,8)
structure MonOk (m : Mon) : Prop where
 mem : okM m.mem.al m.mem.next=true
 len : m.stks.length=m.mem.al.length
 tag : 1≤m.tag∧m.tag≤1000000
 call : 1≤m.call∧m.call≤1000000
 run : okR m.run=true
 last : m.run.length=0∨lastR m.run < m.call
 row : ∀ (i : Nat) (x : Stk) (a : Alloc),m.stks[i]? = some x→m.mem.al[i]? = some a→rowM m.tag m.call x a=true
theorem okMon_iff (m : Mon) : okMon m=true ↔ MonOk m:=by
 unfold okMon headM lastM rowsM cntd
 simp only [Bool.and_eq_true,Bool.or_eq_true,beq_iff_eq,decide_eq_true_eq,List.all_eq_true,List.mem_range]
 constructor
 ·rintro ⟨⟨⟨⟨⟨⟨h1,h2⟩,h3⟩,h4⟩,h5⟩,h6⟩,h7⟩
  refine ⟨h1,h2,h3,h4,h5,h6,fun i x a hx ha => ?_⟩
  have:=h7 i (List.getElem?_eq_some_iff.1 ha).1
  simpa only [rowAtM,hx,ha] using this
 ·rintro ⟨h1,h2,h3,h4,h5,h6,h7⟩
  refine ⟨⟨⟨⟨⟨⟨h1,h2⟩,h3⟩,h4⟩,h5⟩,h6⟩,fun i hi => ?_⟩
  have ha : m.mem.al[i]? = some m.mem.al[i]:=by simp [hi]
  have hx : m.stks[i]? = some (m.stks[i]'(by rw [h2];exact hi)):=by simp
  simp only [rowAtM,hx,ha]
  exact h7 i _ _ hx ha
theorem MonOk.of {m : Mon} (h : okMon m=true) : MonOk m:=(okMon_iff m).1 h
theorem monErr_of {m : Mon} (h : okMon m=true) : monErr m=0:=by simp [monErr,h]
theorem monErr_not {m : Mon} (h : okMon m=false) : monErr m=8:=by simp [monErr,h]
theorem rowM_parts {tag call : Int} {x : Stk} {a : Alloc} (h : rowM tag call x a=true) : x.num=a.num∧x.cells.length=a.cells.length∧okK x=true ∧ ∀ s ∈ x.cells,∀ it ∈ s,a.live=true∧it.t < tag∧it.c < call:=by
 unfold rowM itM at h
 simp only [Bool.and_eq_true,beq_iff_eq,List.all_eq_true,decide_eq_true_eq,List.mem_flatten] at h
 exact ⟨h.1.1.1,h.1.1.2,h.1.2,fun s hs it hi=>h.2 it ⟨s,hs,hi⟩⟩
theorem MonOk.stk {m : Mon} (h : MonOk m) {i : Nat} (hi : i < m.mem.al.length) : ∃ x a,m.stks[i]? = some x∧m.mem.al[i]? = some a∧rowM m.tag m.call x a=true:=by
 have ha : m.mem.al[i]? = some m.mem.al[i]:=by simp [hi]
 have hx : m.stks[i]? = some (m.stks[i]'(by rw [h.len];exact hi)):=by simp
 exact ⟨_,_,hx,ha,h.row i _ _ hx ha⟩
theorem MonOk.memOk {m : Mon} (h : MonOk m) : m.mem.ok=true:=h.mem
theorem MonOk.lastlt {m : Mon} (h : MonOk m) : lastR m.run < m.call:=by
 rcases h.last with h1 | h1
 ·have : m.run=[]:=List.eq_nil_of_length_eq_zero h1
  rw [this,lastR_nil];have:=h.call;omega
 ·exact h1
theorem MonOk.enter {m : Mon} (h : MonOk m) : enterR m.run m.call=if m.run.length=32 then ([],18) else (m.run ++ [m.call],0):=by
 have h1:=h.lastlt
 have h2:=h.call
 unfold enterR
 rw [if_pos h.run,if_neg (by omega)]
theorem MonOk.leave {m : Mon} (h : MonOk m) : leaveR m.run=if m.run.length=0 then ([],6) else (m.run.take (m.run.length - 1),0):=by
 unfold leaveR
 rw [if_pos h.run]
theorem findIdx_nums {l : List Stk} {al : List Alloc} (hlen : l.length=al.length) (h : ∀ (i : Nat) (x : Stk) (a : Alloc),l[i]? = some x→al[i]? = some a→x.num=a.num) (n : Int) : l.findIdx? (fun x=>x.num == n)=atNum al n:=by
 unfold atNum
 induction l generalizing al with
 | nil=>cases al with
  | nil=>rfl
  | cons a al=>simp at hlen
 | cons x l ih=>cases al with
  | nil=>simp at hlen
  | cons a al =>
   have h0:=h 0 x a rfl rfl
   rw [List.findIdx?_cons,List.findIdx?_cons,h0,ih (by simpa using hlen) (fun i y b hy hb=>h (i+1) y b (by simpa using hy) (by simpa using hb))]
theorem MonOk.at {m : Mon} (h : MonOk m) (n : Int) : m.stks.findIdx? (fun x=>x.num == n)=atNum m.mem.al n:=findIdx_nums h.len (fun i x a hx ha=>(rowM_parts (h.row i x a hx ha)).1) n
theorem okAl_sorted {next least : Int} {l : List Alloc} (h : okAl next least l=true) : ∀ (i j : Nat) (a b : Alloc),i < j→l[i]? = some a→l[j]? = some b→a.num < b.num∧least≤a.num:=by
 induction l generalizing least with
 | nil=>intro i j a b _ ha;simp at ha
 | cons x l ih =>
  simp only [okAl,Bool.and_eq_true,decide_eq_true_eq] at h
  have ih:=ih h.2
  have hge : ∀ (l : List Alloc) (n : Int),okAl next n l=true → ∀ a ∈ l,n≤a.num:=by
   intro l
   induction l with
   | nil=>intro _ _ a ha;cases ha
   | cons y l ih2 =>
    intro n hn a ha
    simp only [okAl,Bool.and_eq_true,decide_eq_true_eq] at hn
    rcases List.mem_cons.1 ha with rfl | ha
    ·omega
    ·have:=ih2 _ hn.2 a ha;omega
  intro i j a b hij ha hb
  cases j with
  | zero=>omega
  | succ j =>
   cases i with
   | zero =>
    simp only [List.getElem?_cons_zero,Option.some.injEq] at ha
    subst ha
    have:=hge l _ h.2 b (List.mem_of_getElem? (by simpa using hb))
    omega
   | succ i =>
    have:=ih i j a b (by omega) (by simpa using ha) (by simpa using hb)
    omega
def liveNum (al : List Alloc) (n : Int) : Bool:=(al.filter (·.live)).any fun a=>a.num == n
theorem MonOk.live {m : Mon} (h : MonOk m) {i : Nat} {x : Stk} {a : Alloc} (hx : m.stks[i]? = some x) (ha : m.mem.al[i]? = some a) : liveNum m.mem.al x.num=a.live:=by
 have hn:=(rowM_parts (h.row i x a hx ha)).1
 have hok:=h.mem
 unfold okM at hok
 simp only [Bool.and_eq_true] at hok
 have hs:=okAl_sorted hok.2
 unfold liveNum
 cases hl : a.live
 ·rw [List.any_eq_false]
  intro b hb
  obtain ⟨hb1,hb2⟩:=List.mem_filter.1 hb
  obtain ⟨j,hj⟩:=List.mem_iff_getElem?.1 hb1
  rw [beq_iff_eq,hn]
  intro e
  rcases Nat.lt_trichotomy i j with h1 | h1 | h1
  ·have:=(hs i j a b h1 ha hj).1;omega
  ·subst h1;rw [ha] at hj;cases hj;rw [hl] at hb2;cases hb2
  ·have:=(hs j i b a h1 hj ha).1;omega
 ·exact List.any_eq_true.2 ⟨a,List.mem_filter.2 ⟨List.mem_of_getElem? ha,hl⟩,by rw [hn];exact beq_self_eq_true _⟩
end Go.Proofs.YtnplphcnagooeaaGreatDoor

/- Contracts: guard.Enter and guard.Leave, whose results read from new blocks alone. (printed by gen/mon35c.py) -/
namespace Go.Proofs.YtnplphcnagooeaaGreatDoor
set_option maxRecDepth 100000
open Go.RowKit
def RetNF (w : World) (l : List Int) (n : Int) (en : Ending) (w' : World) : Prop := ∃ v,en = .returned (.tuple #[v,.int .i64 n])∧Fq (fun b=>w.heap.size≤b) w' (fun w=>Nts w v l)∧Ext w w'
set_option maxHeartbeats 800000 in
theorem guard_LeaveF {l : List Int} {v : Value} {w : World} (hl : Nts w v l) : Calls Tryz.prog 66 #[v] w (RetNF w (leaveR l).1 (leaveR l).2):=by
 have hL:=Lib.hid hl
 obtain ⟨a,cp,rfl,hlc,hcm,-⟩:=hl.form
 unfold maxLen at hcm
 clear hl
 cases hok : okR l
 ·have h8:=Lib.hid (runErr_bad hok)
  have hres:=Lib.hid (leaveR_bad hok)
  clear hok
  go_enter Tryz.func66,Tryz.ntmps66
  go_wp2_with fail
  refine (guard_Check hL.out).mono ?_
  rintro e w1 ⟨rfl,rfl⟩
  rw [h8.out]
  go_wp2
  go_ret2
  rw [hres.out]
  exact ⟨_,rfl,Fq.of_all Nts.nil,Ext.refl _⟩
 ·have h0:=Lib.hid (runErr_ok hok)
  have hlen:=okR_len hok
  by_cases hz : l.length=0
  ·have hres:=Lib.hid (leaveR_none hok hz)
   have hz' : ((l.length : Int) == 0)=true:=beq_iff_eq.2 (by omega)
   clear hok hz
   go_enter Tryz.func66,Tryz.ntmps66
   go_wp2_with fail
   refine (guard_Check hL.out).mono ?_
   rintro e w1 ⟨rfl,rfl⟩
   rw [h0.out]
   go_wp2
   go_ret2
   rw [hres.out]
   exact ⟨_,rfl,Fq.of_all Nts.nil,Ext.refl _⟩
  ·have hres:=Lib.hid (leaveR_ok hok hz)
   have hz' : ((l.length : Int) == 0)=false:=beq_eq_false_iff_ne.2 (by omega)
   have hcut:=slice_upto_Ints a l.length cp ((l.length : Int) - 1) (l.length - 1) (by omega) (by omega)
   clear hok
   go_enter Tryz.func66,Tryz.ntmps66
   go_wp2_with fail
   refine (guard_Check hL.out).mono ?_
   rintro e w1 ⟨rfl,rfl⟩
   rw [h0.out]
   go_wp2_with fail
   refine (clone_Ints (hL.out.take (l.length - 1) (by omega)) (by rw [List.length_take];omega)).mono ?_
   rintro e w1 ⟨v1,rfl,hO,hE⟩
   go_wp2
   go_ret2
   rw [hres.out]
   exact ⟨_,rfl,fun w'' hb=>Own.sl_of hO hb,hE⟩
set_option maxHeartbeats 1600000 in
theorem guard_EnterF {l : List Int} {v : Value} {w : World} (c : Int) (hl : Nts w v l) : Calls Tryz.prog 65 #[v,.int .i64 c] w (RetNF w (enterR l c).1 (enterR l c).2):=by
 have hL:=Lib.hid hl
 obtain ⟨a,cp,rfl,hlc,hcm,-⟩:=hl.form
 unfold maxLen at hcm
 clear hl
 cases hok : okR l
 ·have h8:=Lib.hid (runErr_bad hok)
  have hres:=Lib.hid (enterR_bad (c:=c) hok)
  clear hok
  go_enter Tryz.func65,Tryz.ntmps65
  go_wp2_with fail
  refine (guard_Check hL.out).mono ?_
  rintro e w1 ⟨rfl,rfl⟩
  rw [h8.out]
  go_wp2
  go_ret2
  rw [hres.out]
  exact ⟨_,rfl,Fq.of_all Nts.nil,Ext.refl _⟩
 ·have h0:=Lib.hid (runErr_ok hok)
  have hlen:=okR_len hok
  obtain ⟨last,hlast⟩ : ∃ n,lastR l=n:=⟨_,rfl⟩
  have hcase : (decide (0 < l.length)=false∧last=0)∨(decide (0 < l.length)=true ∧ ∃ b off,a=some ⟨b,off,none⟩∧w.cell? ⟨b,off+(l.length - 1),none⟩=some (.int .i64 last)∧(0 : Int)≤(l.length : Int) - 1∧1≤(l.length : Int)∧1≤l.length):=by
   by_cases hz : l.length=0
   ·left
    have : l=[]:=List.eq_nil_of_length_eq_zero hz
    subst this
    exact ⟨rfl,hlast.symm.trans rfl⟩
   ·right
    obtain ⟨b,off,rfl,_,hc⟩:=hL.out.cell (last_is hz)
    rw [hlast] at hc
    exact ⟨decide_eq_true (by omega),b,off,rfl,hc,by omega,by omega,by omega⟩
  by_cases hc : c≤last∨1000000 < c
  ·have hres:=Lib.hid (enterR_low hok (by rw [hlast];exact hc))
   have hq : decide (c≤last)=true∨decide (c≤last)=false∧decide (1000000 < c)=true:=by
    by_cases h : c≤last
    ·exact .inl (decide_eq_true h)
    ·exact .inr ⟨decide_eq_false h,decide_eq_true (by omega)⟩
   clear hok hc hlast
   rcases hcase with ⟨g1,rfl⟩ | ⟨g1,b,off,rfl,g2,g3,g4,g5⟩
   all_goals
    rcases hq with q1 | ⟨q1,q2⟩
    all_goals
     go_enter Tryz.func65,Tryz.ntmps65
     go_wp2_with fail
     refine (guard_Check hL.out).mono ?_
     rintro e w1 ⟨rfl,rfl⟩
     rw [h0.out]
     go_wp2
     go_ret2
     rw [hres.out]
     exact ⟨_,rfl,Fq.of_all Nts.nil,Ext.refl _⟩
  ·have q1 : decide (c≤last)=false:=decide_eq_false (by omega)
   have q2 : decide (1000000 < c)=false:=decide_eq_false (by omega)
   by_cases hf : l.length=32
   ·have hres:=Lib.hid (enterR_full hok (by rw [hlast];exact hc) hf)
    have q3 : ((l.length : Int) == 32)=true:=beq_iff_eq.2 (by omega)
    clear hok hc hlast hf
    rcases hcase with ⟨g1,rfl⟩ | ⟨g1,b,off,rfl,g2,g3,g4,g5⟩
    all_goals
     go_enter Tryz.func65,Tryz.ntmps65
     go_wp2_with fail
     refine (guard_Check hL.out).mono ?_
     rintro e w1 ⟨rfl,rfl⟩
     rw [h0.out]
     go_wp2
     go_ret2
     rw [hres.out]
     exact ⟨_,rfl,Fq.of_all Nts.nil,Ext.refl _⟩
   ·have hres:=Lib.hid (enterR_ok hok (by rw [hlast];exact hc) hf)
    have q3 : ((l.length : Int) == 32)=false:=beq_eq_false_iff_ne.2 (by omega)
    obtain ⟨i,z,hi,hz,hi3,hz3,hby⟩:=Int.infoE
    have hz:=Lib.hid hz;have hi3:=Lib.hid hi3;have hz3:=Lib.hid hz3;have hby:=Lib.hid hby;have hi:=Lib.hid hi
    clear hok hc hlast hf
    rcases hcase with ⟨g1,rfl⟩ | ⟨g1,b,off,rfl,g2,g3,g4,g5⟩
    all_goals
     go_enter Tryz.func65,Tryz.ntmps65
     go_wp2_with fail
     refine (guard_Check hL.out).mono ?_
     rintro e w1 ⟨rfl,rfl⟩
     rw [h0.out]
     go_wp2_with fail
     refine (clone_Ints hL.out (by omega)).mono ?_
     rintro e w2 ⟨v2,rfl,hO,hE⟩
     have hE2:=(Ext.refl w2).alloc (.cells #[.int .i64 c] 3)
     have hx : Sl (w2.alloc (.cells #[.int .i64 c] 3)) 1 (.slice (some ⟨w2.heap.size,0,none⟩) 1 1) 1 (irow c):=(Own.lit' (B:=0) (e:=3) (k:=1) w2 #[.int .i64 c] 1 (Nat.zero_le _) (by simp [maxLen]) rfl).sl
     have hO':=Lib.hid (hO.ext hE2)
     have hx':=Lib.hid hx
     have hEs:=Lib.hid (hE.trans hE2).size
     clear hO hx
     go_wp2_with (at_builtin;refine Hid.out ?_)
     refine Hid.mk ?_
     refine wpList_append_any rfl _ _ 26 26 rfl rfl rfl Tryz.underlying26 Tryz.underlying26 hi.out hz.out hi3.out hz3.out hO'.out hx'.out (by simp [irow,Value.oneCell']) (by simp [maxLen];omega) (by rw [hby.out];omega) hEs.out ?_
     intro v' w' hO3 hK _ _
     go_wp2
     go_ret2
     rw [hres.out]
     refine ⟨_,rfl,fun w'' hb => ?_,Below.trans (hE.trans hE2) hK.below⟩
     have:=Own.sl_of hO3 hb
     unfold Nts
     rw [List.length_append,List.flatMap_append]
     exact this
end Go.Proofs.YtnplphcnagooeaaGreatDoor

/- Contracts: slices.Clone at stacks of an allocation, and at the stacks of many. -/
namespace Go.Proofs.YtnplphcnagooeaaGreatDoor
set_option maxRecDepth 100000
open Go.RowKit
theorem Stacks.infoE : ∃ i z,Tryz.prog.info? 68=some i∧i.zero=some z∧i.size=2∧z.cells.size=2∧i.bytes=32:=by
 have h : (Tryz.prog.info? 68).map (fun i=>(i.zero.map (fun z=>z.cells.size),i.size,i.bytes))=some (some 2,2,32):=by kernel_rfl
 cases hi : Tryz.prog.info? 68 with
 | none=>rw [hi] at h;simp at h
 | some i =>
  rw [hi] at h
  simp only [Option.map_some,Option.some.injEq,Prod.mk.injEq] at h
  obtain ⟨h1,h2,h3⟩:=h
  cases hz : i.zero with
  | none=>rw [hz] at h1;simp at h1
  | some z =>
   rw [hz] at h1
   exact ⟨i,z,rfl,hz,h2,by simpa using h1,h3⟩
set_option maxHeartbeats 400000 in
theorem clone_Stacks2 {n : Nat} {xs : List Value} {v : Value} {w : World} (hl : Sl w 2 v n xs) (h1 : ∀ u ∈ xs,u.oneCell'=true) (hs : n≤1000000) : Calls Tryz.prog 89 #[v] w (RetSl 68 2 w n xs):=by
 obtain ⟨i,z,hi,hz,hi3,hz3,hby⟩:=Stacks.infoE
 obtain ⟨a,cp,rfl,hlc,hcm,hn⟩:=hl.slice_form
 cases a with
 | none =>
  have hcp:=hn rfl
  subst hcp
  obtain rfl : n=0:=by omega
  obtain rfl:=hl.zero
  have hnil : ∀ w,(binOp .eql 25 (.slice none 0 0) (.slice none 0 0)).run Tryz.prog w = .ok (.bool true) w:=fun w=>Lib.run_eql_slice_nil w 25 68 none 0 0 0 0 Tryz.underlying25
  go_enter Tryz.func89,Tryz.ntmps89
  go_wp2
  go_ret
  exact ⟨_,rfl,Own.nil _ _ _ _,Ext.refl _⟩
 | some ad =>
  have hE:=(Ext.refl w).alloc (.cells #[] 68)
  have hl':=hl.ext hE
  have hO:=Own.made' w w.heap.size 68 2 (Nat.le_refl _)
  have hz:=Lib.hid hz
  have hi3:=Lib.hid hi3
  have hz3:=Lib.hid hz3
  have hby:=Lib.hid hby
  have hi:=Lib.hid hi
  have hnil : ∀ w,(binOp .eql 25 (.slice (some ad) n cp) (.slice none 0 0)).run Tryz.prog w = .ok (.bool false) w:=fun w=>Lib.run_eql_slice_nil w 25 68 (some ad) n cp 0 0 Tryz.underlying25
  go_enter Tryz.func89,Tryz.ntmps89
  go_wp2_with (at_builtin;refine Hid.out ?_)
  refine Hid.mk ?_
  refine wpList_append_any rfl _ _ 25 25 rfl rfl rfl Tryz.underlying25 Tryz.underlying25 hi.out hz.out hi3.out hz3.out hO hl' h1 (by simp [maxLen];omega) (by rw [hby.out];omega) hE.size ?_
  intro v' w' hO' hK _ _
  go_wp2
  go_ret
  simp only [Nat.zero_add,List.nil_append] at hO'
  exact ⟨_,rfl,hO',(Below.trans (Below.alloc (Below.refl _ w) (Nat.le_refl _) _) hK.below : Below w.heap.size w w')⟩
set_option maxHeartbeats 400000 in
theorem clone_StackRows {n : Nat} {xs : List Value} {v : Value} {w : World} (hl : Sl w 1 v n xs) (h1 : ∀ u ∈ xs,u.oneCell'=true) (hs : n≤1000000) : Calls Tryz.prog 90 #[v] w (RetSl 72 1 w n xs):=by
 obtain ⟨i,z,hi,hz,hi3,hz3,hby⟩:=Stack.infoE
 obtain ⟨a,cp,rfl,hlc,hcm,hn⟩:=hl.slice_form
 cases a with
 | none =>
  have hcp:=hn rfl
  subst hcp
  obtain rfl : n=0:=by omega
  obtain rfl:=hl.zero
  have hnil : ∀ w,(binOp .eql 66 (.slice none 0 0) (.slice none 0 0)).run Tryz.prog w = .ok (.bool true) w:=fun w=>Lib.run_eql_slice_nil w 66 72 none 0 0 0 0 Tryz.underlying66
  go_enter Tryz.func90,Tryz.ntmps90
  go_wp2
  go_ret
  exact ⟨_,rfl,Own.nil _ _ _ _,Ext.refl _⟩
 | some ad =>
  have hE:=(Ext.refl w).alloc (.cells #[] 72)
  have hl':=hl.ext hE
  have hO:=Own.made' w w.heap.size 72 1 (Nat.le_refl _)
  have hz:=Lib.hid hz
  have hi3:=Lib.hid hi3
  have hz3:=Lib.hid hz3
  have hby:=Lib.hid hby
  have hi:=Lib.hid hi
  have hnil : ∀ w,(binOp .eql 66 (.slice (some ad) n cp) (.slice none 0 0)).run Tryz.prog w = .ok (.bool false) w:=fun w=>Lib.run_eql_slice_nil w 66 72 (some ad) n cp 0 0 Tryz.underlying66
  go_enter Tryz.func90,Tryz.ntmps90
  go_wp2_with (at_builtin;refine Hid.out ?_)
  refine Hid.mk ?_
  refine wpList_append_any rfl _ _ 66 66 rfl rfl rfl Tryz.underlying66 Tryz.underlying66 hi.out hz.out hi3.out hz3.out hO hl' h1 (by simp [maxLen];omega) (by rw [hby.out];omega) hE.size ?_
  intro v' w' hO' hK _ _
  go_wp2
  go_ret
  simp only [Nat.zero_add,List.nil_append] at hO'
  exact ⟨_,rfl,hO',(Below.trans (Below.alloc (Below.refl _ w) (Nat.le_refl _) _) hK.below : Below w.heap.size w w')⟩
end Go.Proofs.YtnplphcnagooeaaGreatDoor

/- What a copy of a monitor is: each part in blocks of its own colour; the loop that copies the stacks of many allocations; no program in sight. -/
namespace Go.Proofs.YtnplphcnagooeaaGreatDoor
set_option maxRecDepth 100000
open Go.RowKit
theorem ext_setCell_both {a b : World} (h : Ext a b) (p : Addr) (u : Value) : Ext (a.setCell p u) (b.setCell p u):=by
 refine ⟨h.os,h.tape,h.output,by simpa using h.size,fun x hx => ?_⟩
 have hx' : x < a.heap.size:=by simpa using hx
 by_cases e : x=p.block
 ·subst e
  show (b.heap.modify p.block _)[p.block]? = (a.heap.modify p.block _)[p.block]?
  have hb:=h.blk hx'
  have hxb : p.block < b.heap.size:=Nat.lt_of_lt_of_le hx' h.size
  rw [Array.getElem?_eq_getElem (by simpa using hxb),Array.getElem?_eq_getElem (by simpa using hx'),Array.getElem_modify_self,Array.getElem_modify_self]
  rw [Array.getElem?_eq_getElem hxb,Array.getElem?_eq_getElem hx'] at hb
  rw [Option.some.inj hb]
 ·rw [Below.heap_setCell _ _ _ _ e,Below.heap_setCell _ _ _ _ e]
  exact h.blk hx'
theorem OM.fsx {w : World} {B : Nat} {v : Value} {vs : List Value} {l : List Alloc} (h : OM w B v vs l) : Fq (fun b=>v.ownBlock=some b ∨ ∃ s ∈ vs,s.ownBlock=some b) w (fun w=>Als w v l):=fun w'' hb =>
 ⟨vs,All2.iff.2 ⟨(All2.iff.1 h.inner).1,fun i s a hs ha=>((All2.iff.1 h.inner).2 i s a hs ha).fs w'' fun b h1 h2=>hb b (.inr ⟨s,List.mem_of_getElem? hs,h1⟩) h2⟩,h.outer.fs w'' fun b h1 h2=>hb b (.inl h1) h2⟩
def CInvV {α : Type} (row : Value→α→List Value) (e k : Nat) (RO : World→Nat→Value→α→Prop) (w0 w1 wr : World) (v : Value) (vs0 : List Value) (l : List α) (n : Nat) : Prop :=
 (∃ g cap,v = .slice (some ⟨g,0,none⟩) l.length cap∧CInv row e k RO w0 w1 wr g cap vs0 l n)∨(l=[]∧wr=w1∧Own w1 w0.heap.size e k v 0 []∧Ext w0 w1)
section
variable {α : Type} {row : Value→α→List Value} {e k : Nat} {RO : World→Nat→Value→α→Prop} {w0 w1 wr : World} {v : Value} {vs0 : List Value} {l : List α} {n : Nat}
theorem CInvV.start (hv : vs0.length=l.length) (hO : Own w1 w0.heap.size e k v l.length (trows row vs0 l)) (hE : Ext w0 w1) : CInvV row e k RO w0 w1 w1 v vs0 l 0:=by
 by_cases h : l=[]
 ·subst h
  have hx : trows row vs0 ([] : List α)=[]:=by simp [trows]
  rw [hx] at hO
  exact .inr ⟨rfl,rfl,hO,hE⟩
 ·have hl : 0 < l.length:=List.length_pos_iff.2 h
  obtain ⟨g,cap,rfl,-⟩:=hO.form hl
  exact .inl ⟨g,cap,rfl,CInv.start hv hO hE⟩
theorem CInvV.keep (h : CInvV row e k RO w0 w1 wr v vs0 l n) : ExtBut (fun b=>v.ownBlock=some b) w1 wr:=by
 rcases h with ⟨g,cap,rfl,h⟩ | ⟨rfl,rfl,-⟩
 ·exact h.keep.mono fun x _ hx=>by rw [hx];rfl
 ·exact ExtBut.refl _ _
theorem CInvV.ext (h : CInvV row e k RO w0 w1 wr v vs0 l n) : Ext w0 wr:=by
 rcases h with ⟨g,cap,rfl,h⟩ | ⟨rfl,rfl,-,h⟩
 ·exact h.ext
 ·exact h
theorem CInvV.at (h : CInvV row e k RO w0 w1 wr v vs0 l n) (hn : n < l.length) : ∃ g cap,v = .slice (some ⟨g,0,none⟩) l.length cap∧CInv row e k RO w0 w1 wr g cap vs0 l n:=by
 rcases h with h | ⟨rfl,-⟩
 ·exact h
 ·simp at hn
theorem CInvV.finish (h : CInvV row e k RO w0 w1 wr v vs0 l l.length) : ∃ vs,OTb row e k RO wr w0.heap.size v vs l∧Ext w0 wr ∧ ∀ s ∈ vs,∀ b,s.ownBlock=some b→w1.heap.size≤b:=by
 rcases h with ⟨g,cap,rfl,h⟩ | ⟨rfl,rfl,h1,h2⟩
 ·exact h.finish
 ·exact ⟨[],⟨by simpa [trows] using h1,trivial,fun i j a b _ h=>by simp at h,fun s h=>by cases h⟩,h2,fun s h=>by cases h⟩
end
def RowC (w : World) (B : Nat) (c : Nat→Nat) (i : Nat) (s : Value) (x : Stk) : Prop :=
 Fq (fun b=>B≤b∧c b=i+3) w (fun w=>Sts w s x.cells)∧(∃ us,Own w B 72 1 s x.cells.length us) ∧ ∀ g,s.ownBlock=some g→c g=i+3
theorem RowC.to {w w' : World} {B B' : Nat} {c c' : Nat→Nat} {i : Nat} {s : Value} {x : Stk} {T : Nat→Prop} (h : RowC w B c i s x) (hE : ExtBut T w w') (hB : B'≤B) (hd : ∀ b,B≤b→b < w.heap.size→c b=i+3 → ¬ T b) (hc : ∀ b,B≤b→b < w.heap.size→c b=i+3→c' b=i+3) : RowC w' B' c' i s x:=by
 obtain ⟨h1,⟨us,h2⟩,h3⟩:=h
 refine ⟨h1.to hE (fun b hb hl=>hd b hb.1 hl hb.2) (fun b hb hl=>⟨Nat.le_trans hB hb.1,hc b hb.1 hl hb.2⟩),⟨us,(ExtBut.own h2 hE fun g e=>hd g (h2.lt e).1 (h2.lt e).2 (h3 g e)).mono hB⟩,fun g e=>hc g (h2.lt e).1 (h2.lt e).2 (h3 g e)⟩
structure Cloned (w : World) (B : Nat) (c : Nat→Nat) (sa ss sr : Value) (vs : List Value) (m : Mon) : Prop where
 al : Fq (fun b=>B≤b∧c b=1) w (fun w=>Als w sa m.mem.al)
 run : Fq (fun b=>B≤b∧c b=2) w (fun w=>Nts w sr m.run)
 len : vs.length=m.stks.length
 outer : Own w B 68 2 ss m.stks.length (trows krow vs m.stks)
 out0 : ∀ g,ss.ownBlock=some g→c g=0
 row : ∀ (i : Nat) (s : Value) (x : Stk),vs[i]? = some s→m.stks[i]? = some x→RowC w B c i s x
def RetCl (w : World) (m : Mon) (en : Ending) (w' : World) : Prop := ∃ c sa ss sr vs,en = .returned (.agg #[sa,.int .i64 m.mem.next,ss,sr,.int .i64 m.tag,.int .i64 m.call])∧Cloned w' w.heap.size c sa ss sr vs m∧Ext w w'
structure KInv (w0 w1 wr : World) (c0 : Nat→Nat) (v : Value) (vs0 : List Value) (l : List Stk) (n : Nat) : Prop where
 vs : ∃ (vs : List Value) (c : Nat→Nat),vs.length=l.length∧Own wr w0.heap.size 68 2 v l.length (trows krow vs l)∧(∀ (i : Nat) (s : Value) (x : Stk),i < n→vs[i]? = some s→l[i]? = some x→RowC wr w0.heap.size c i s x)∧(∀ i : Nat,n≤i→vs[i]? = vs0[i]?)∧(∀ b,b < w1.heap.size→c b=c0 b)
 out0 : ∀ g,v.ownBlock=some g→c0 g=0∧w0.heap.size≤g∧g < w1.heap.size
 ext0 : Ext w0 w1
 keep : ExtBut (fun b=>v.ownBlock=some b) w1 wr
section
variable {w0 w1 wr : World} {c0 : Nat→Nat} {v : Value} {vs0 : List Value} {l : List Stk} {n : Nat}
theorem KInv.ext (h : KInv w0 w1 wr c0 v vs0 l n) : Ext w0 wr:=h.keep.ext h.ext0 fun _ hx=>(h.out0 _ hx).2.1
theorem KInv.start (hv : vs0.length=l.length) (hO : Own w1 w0.heap.size 68 2 v l.length (trows krow vs0 l)) (hE : Ext w0 w1) (hc : ∀ g,v.ownBlock=some g→c0 g=0) : KInv w0 w1 w1 c0 v vs0 l 0 :=
 ⟨⟨vs0,c0,hv,hO,fun i _ _ h=>by omega,fun _ _=>rfl,fun _ _=>rfl⟩,fun g e=>⟨hc g e,hO.lt e⟩,hE,ExtBut.refl _ _⟩
theorem KInv.cell (h : KInv w0 w1 wr c0 v vs0 l n) {x : Stk} {s : Value} (hx : l[n]? = some x) (hs : vs0[n]? = some s) : ∃ g cap,v = .slice (some ⟨g,0,none⟩) l.length cap∧w0.heap.size≤g∧g < w1.heap.size∧wr.cell? ⟨g,n * 2+1,none⟩=some s ∧ ∀ j,wr.frozen? ⟨g,j,none⟩=false:=by
 obtain ⟨⟨vs,c,hl,hO,hin,hold,hc⟩,h0,hE,hk⟩:=h
 have hn:=(List.getElem?_eq_some_iff.1 hx).1
 obtain ⟨g,cap,rfl,-⟩:=hO.form (by omega)
 have hsn:=(hold n (Nat.le_refl _)).trans hs
 refine ⟨g,cap,rfl,(h0 g rfl).2.1,(h0 g rfl).2.2,?_,fun j=>hO.frozen j⟩
 exact (hO.cellAt (n * 2+1) (by omega)).trans ((trows_get krow krow_len hsn hx (by omega : 1 < 2)).trans rfl)
theorem KInv.step {g cap gs cap' : Nat} {us0 : List Value} {x : Stk} {wC w' : World} (h : KInv w0 w1 wr c0 (.slice (some ⟨g,0,none⟩) l.length cap) vs0 l n) (hx : l[n]? = some x) (hE : Ext wr wC) (hgs : wr.heap.size≤gs)
  (hI : CInv srow 72 1 OwnI (wr.setCell ⟨g,n * 2+1,none⟩ (.slice (some ⟨gs,0,none⟩) x.cells.length cap')) (wC.setCell ⟨g,n * 2+1,none⟩ (.slice (some ⟨gs,0,none⟩) x.cells.length cap')) w' gs cap' us0 x.cells x.cells.length) :
  KInv w0 w1 w' c0 (.slice (some ⟨g,0,none⟩) l.length cap) vs0 l (n+1):=by
 obtain ⟨⟨vs,c,hl,hO,hin,hold,hc⟩,h0,hE0,hk⟩:=h
 have hn:=(List.getElem?_eq_some_iff.1 hx).1
 obtain ⟨hg0,hg1,hg2⟩:=h0 g rfl
 have hk1:=hk.size
 obtain ⟨s,hs⟩ : ∃ s,vs[n]? = some s:=⟨vs[n]'(by omega),by simp⟩
 obtain ⟨us,hT,-,-⟩:=hI.finish
 have hkI:=hI.keep
 have hwr : (wr.setCell ⟨g,n * 2+1,none⟩ (.slice (some ⟨gs,0,none⟩) x.cells.length cap')).heap.size=wr.heap.size:=by simp
 rw [hwr] at hT
 have hO':=(hO.ext hE).set (n * 2+1) (.slice (some ⟨gs,0,none⟩) x.cells.length cap')
 rw [trows_set krow krow_len (s' := .slice (some ⟨gs,0,none⟩) x.cells.length cap') (a':=x) hs hx (by omega) (by simp [krow]),set_same hx] at hO'
 have hgn : g≠gs:=by omega
 have hX : ExtBut (fun b=>b=g) wr w':=((ExtBut.of_ext hE).trans (ExtBut.setCell wC ⟨g,n * 2+1,none⟩ (.slice (some ⟨gs,0,none⟩) x.cells.length cap'))).trans' hkI (fun y hy e=>by omega)
 have hsz:=hX.size
 refine ⟨⟨vs.set n (.slice (some ⟨gs,0,none⟩) x.cells.length cap'),fun b=>if b < wr.heap.size then c b else n+3,by simpa using hl,?_,?_,?_,?_⟩,h0,hE0,?_⟩
 ·exact ExtBut.own hO' hkI (fun b e e2=>by have e3 : some g=some b:=e;cases e3;exact hgn e2)
 ·intro i u y hi hu hy
  by_cases e : i=n
  ·subst e
   rw [List.getElem?_set_self (by omega)] at hu
   cases hu
   rw [hx] at hy
   cases hy
   have hfs : Fq (fun b=>wr.heap.size≤b) w' (fun w=>Sts w (.slice (some ⟨gs,0,none⟩) x.cells.length cap') x.cells):=OwnS.fs hT
   exact ⟨hfs.mono fun b hb _=>⟨by omega,if_neg (by omega)⟩,⟨_,Own.mono hT.outer (by omega)⟩,fun b e=>by have e3 : some gs=some b:=e;cases e3;exact if_neg (by omega)⟩
  ·rw [List.getElem?_set_ne (fun e'=>e e'.symm)] at hu
   refine (hin i u y (by omega) hu hy).to hX (Nat.le_refl _) (fun b _ _ e1 e2 => ?_) (fun b _ hb e1=>by rw [if_pos hb];exact e1)
   subst e2
   rw [hc _ hg2,hg0] at e1
   omega
 ·intro i hi
  rw [List.getElem?_set_ne (by omega)]
  exact hold i (by omega)
 ·intro b hb
  show (if b < wr.heap.size then c b else n+3)=c0 b
  rw [if_pos (by omega)]
  exact hc b hb
 ·exact hk.trans (hX.mono fun y _ e=>by rw [e];rfl)
theorem KInv.finish (h : KInv w0 w1 wr c0 v vs0 l l.length) : ∃ (vs : List Value) (c : Nat→Nat),vs.length=l.length∧Own wr w0.heap.size 68 2 v l.length (trows krow vs l)∧(∀ (i : Nat) (s : Value) (x : Stk),vs[i]? = some s→l[i]? = some x→RowC wr w0.heap.size c i s x)∧(∀ b,b < w1.heap.size→c b=c0 b):=by
 obtain ⟨⟨vs,c,hl,hO,hin,hold,hc⟩,-⟩:=h
 exact ⟨vs,c,hl,hO,fun i s x hs hx=>hin i s x (List.getElem?_eq_some_iff.1 hx).1 hs hx,hc⟩
end
end Go.Proofs.YtnplphcnagooeaaGreatDoor

/- A region that draws its order, by what each operation leaves in its slot: no order is gone through. -/
namespace Go.Proofs.YtnplphcnagooeaaGreatDoor
set_option maxRecDepth 100000
open Go
section
variable {P : Program} {ops : Array Oper} {Q : Exit→Act→World→Prop} {md : Region.Mode}
theorem filter_lt {α : Type} {p q : α→Bool} (h : ∀ x,q x=true→p x=true) : ∀ (l : List α) (x : α),x ∈ l→p x=true→q x=false→(l.filter q).length < (l.filter p).length
 | y :: l,x,hx,hp,hq=>by
  have hle : (l.filter q).length≤(l.filter p).length:=by
   clear hx
   induction l with
   | nil=>simp
   | cons z l ih =>
    simp only [List.filter_cons]
    cases hz : q z
    ·cases hz' : p z
     ·simpa using ih
     ·simp;omega
    ·rw [h z hz];simpa using ih
  rcases List.mem_cons.1 hx with rfl | hm
  ·simp only [List.filter_cons,hp,hq]
   simp;omega
  ·have ih:=filter_lt h l x hm hp hq
   simp only [List.filter_cons]
   cases hy : q y
   ·cases hy' : p y
    ·simpa using ih
    ·simp;omega
   ·rw [h y hy];simpa using ih
def unl (ops : Array Oper) (listed : Array Bool) : Nat:=((List.range ops.size).filter fun i => !listed.getD i true).length
theorem wpAny_inv {I : Array Bool→Act→World→Prop}
  (hs : ∀ listed a w i,I listed a w→i ∈ Region.ready md ops listed→wpOp P ops Q i (I (listed.setIfInBounds i true)) a w)
  (he : ∀ listed a w,I listed a w→Region.ready md ops listed=[]→Q .normal a w) :
  ∀ (fuel : Nat) (listed : Array Bool) (a : Act) (w : World),unl ops listed≤fuel→I listed a w→wpAny P md ops Q fuel listed a w
 | 0,listed,a,w,hu,hI=>by
  have h0 : Region.ready md ops listed=[]:=by
   apply List.eq_nil_iff_forall_not_mem.2
   intro i hi
   obtain ⟨h1,o,ho,-⟩:=mem_ready.1 hi
   have hm : i ∈ (List.range ops.size).filter fun i => !listed.getD i true:=List.mem_filter.2 ⟨List.mem_range.2 (Array.getElem?_eq_some_iff.1 ho).1,by rw [h1];rfl⟩
   have:=List.length_pos_of_mem hm
   unfold unl at hu
   omega
  exact ⟨h0,he _ _ _ hI h0⟩
 | fuel+1,listed,a,w,hu,hI=>by
  refine ⟨fun h0=>he _ _ _ hI h0,fun i hi=>wpOp_mono (fun a' w' hI'=>wpAny_inv hs he fuel _ a' w' ?_ hI') (hs _ _ _ _ hI hi)⟩
  obtain ⟨h1,o,ho,-⟩:=mem_ready.1 hi
  have hlt : i < ops.size:=(Array.getElem?_eq_some_iff.1 ho).1
  have hsz : i < listed.size:=by
   rcases Nat.lt_or_ge i listed.size with h | h
   ·exact h
   ·simp [Array.getElem?_eq_none h] at h1
  have:=filter_lt (p:=fun j => !listed.getD j true) (q:=fun j => !(listed.setIfInBounds i true).getD j true) (fun j hj=>by
   by_cases e : i=j
   ·subst e;simp [hsz] at hj
   ·rwa [getD_set_ne true e] at hj) (List.range ops.size) i (List.mem_range.2 hlt) (by rw [h1];rfl) (by simp [hsz])
  unfold unl at *
  omega
def dstOf (ops : Array Oper) (i : Nat) : Nat:=((ops[i]?).bind (·.dst)).getD 0
structure Pr where
 p : Value→World→Prop
 m : ∀ v w w',p v w→Ext w w'→p v w'
def Pr.eq (u : Value) : Pr:=⟨fun v _=>v=u,fun _ _ _ h _=>h⟩
def Pr.any : Pr:=⟨fun _ _=>True,fun _ _ _ h _=>h⟩
def prAt (L : List Pr) (i : Nat) (v : Value) (w : World) : Prop:=match L[i]? with
 | some q=>q.p v w
 | none=>True
theorem prAt_ext {L : List Pr} {i : Nat} {v : Value} {w w' : World} (h : prAt L i v w) (he : Ext w w') : prAt L i v w':=by
 unfold prAt at *
 cases hq : L[i]? with
 | none=>trivial
 | some q=>rw [hq] at h;exact q.m _ _ _ h he
def RI (ops : Array Oper) (L : List Pr) (a0 : Act) (w0 : World) (listed : Array Bool) (a : Act) (w : World) : Prop :=
 listed.size=ops.size∧a.defers=a0.defers∧a.tmps.size=a0.tmps.size∧(∀ t,(∀ o ∈ ops.toList,o.dst≠some t)→a.tmps[t]? = a0.tmps[t]?)∧(∀ i,listed.getD i false=true→prAt L i (a.eval (.tmp (dstOf ops i))) w)∧Ext w0 w
def AllSteps (T : Nat→Oper→Prop) : List Oper→Nat→Prop
 | [],_=>True
 | o :: l,i=>T i o∧AllSteps T l (i+1)
theorem AllSteps.get {T : Nat→Oper→Prop} : ∀ {l : List Oper} {k i : Nat} {o : Oper},AllSteps T l k→l[i]? = some o→T (k+i) o
 | [],k,i,o,_,h=>by simp at h
 | x :: l,k,0,o,h,ho=>by simp at ho;subst ho;exact h.1
 | x :: l,k,i+1,o,h,ho=>by
  have:=AllSteps.get (i:=i) h.2 (by simpa using ho)
  rwa [show k+1+i=k+(i+1) by omega] at this
theorem eval_tmp (a : Act) (t : Nat) : a.eval (.tmp t)=(a.tmps[t]?).getD undef:=by
 show a.tmps.getD t undef=_
 rw [Array.getD_eq_getD_getElem?]
def putAll (vals : Nat→Value) : List Oper→Nat→Act→Act
 | [],_,a=>a
 | o :: l,i,a=>putAll vals l (i+1) (a.put o.dst (vals i))
theorem put_size (a : Act) (d : Option Tmp) (v : Value) : (a.put d v).tmps.size=a.tmps.size:=by cases d <;> simp [Act.put]
theorem put_def (a : Act) (d : Option Tmp) (v : Value) : (a.put d v).defers=a.defers:=by cases d <;> rfl
theorem put_ne (a : Act) {d : Option Tmp} (v : Value) {t : Nat} (h : d≠some t) : (a.put d v).tmps[t]? = a.tmps[t]? := by
 cases d with
 | none=>rfl
 | some d=>simp only [Act.put];rw [Array.getElem?_setIfInBounds_ne (fun e=>h (by rw [e]))]
theorem put_eq (a : Act) {d : Nat} (v : Value) (h : d < a.tmps.size) : (a.put (some d) v).tmps[d]? = some v:=by
 simp [Act.put,h]
theorem putAll_def (vals : Nat→Value) : ∀ (l : List Oper) (k : Nat) (a : Act),(putAll vals l k a).defers=a.defers
 | [],_,_=>rfl
 | o :: l,k,a=>by rw [putAll,putAll_def vals l,put_def]
theorem putAll_ne (vals : Nat→Value) {t : Nat} : ∀ (l : List Oper) (k : Nat) (a : Act),(∀ o ∈ l,o.dst≠some t)→(putAll vals l k a).tmps[t]? = a.tmps[t]?
 | [],_,_,_=>rfl
 | o :: l,k,a,h=>by rw [putAll,putAll_ne vals l _ _ (fun x hx=>h x (List.mem_cons_of_mem _ hx)),put_ne _ _ (h o (List.mem_cons_self ..))]
theorem putAll_eq (vals : Nat→Value) {t : Nat} : ∀ (l : List Oper) (k : Nat) (a : Act) (i : Nat) (o : Oper),(l.map (·.dst)).Nodup→l[i]? = some o→o.dst=some t→t < a.tmps.size→(putAll vals l k a).tmps[t]? = some (vals (k+i))
 | [],_,_,_,_,_,h,_,_=>by simp at h
 | x :: l,k,a,0,o,hn,ho,hd,ht=>by
  simp at ho;subst ho
  rw [List.map_cons,List.nodup_cons] at hn
  rw [putAll,putAll_ne vals l _ _ (fun y hy e=>hn.1 (by rw [hd,← e];exact List.mem_map_of_mem hy)),hd,put_eq _ _ ht]
  rfl
 | x :: l,k,a,i+1,o,hn,ho,hd,ht=>by
  rw [List.map_cons,List.nodup_cons] at hn
  rw [putAll,putAll_eq vals l (k+1) _ i o hn.2 (by simpa using ho) hd (by rw [put_size];exact ht),show k+1+i=k+(i+1) by omega]
end
end Go.Proofs.YtnplphcnagooeaaGreatDoor

/- A region that draws its order, by what each operation leaves in its slot, guards included. -/
namespace Go.Proofs.YtnplphcnagooeaaGreatDoor
set_option maxRecDepth 100000
open Go
section
variable {P : Program} {ops : Array Oper} {Q : Exit→Act→World→Prop} {md : Region.Mode}
def regOG (md : Region.Mode) (ops : Array Oper) (n : Nat) : Bool :=
 (ops.toList.all fun o=>match o.dst with | some d=>decide (d < n) | none=>false) && decide ((ops.toList.map (·.dst)).Nodup)
 && ((List.range ops.size).all fun i=>((ops[i]?).map fun o=>o.after.all fun e => !Region.binds md e || decide (e.on < i)).getD true)
def StepGo (P : Program) (md : Region.Mode) (ops : Array Oper) (Q : Exit→Act→World→Prop) (L : List Pr) (a0 : Act) (w0 : World) (i : Nat) (o : Oper) : Prop :=
 ∀ (a : Act) (w : World),Ext w0 w→(∀ j,(o.after.any fun e=>Region.binds md e && e.on == j)=true→prAt L j (a.eval (.tmp (dstOf ops j))) w) →
  (∀ t,ops.toList.all (fun o=>o.dst != some t)=true→a.eval (.tmp t)=a0.eval (.tmp t)) →
  (Region.wanted o (yielded ops a.tmps)=true ∧ ∀ K : Act→World→Prop,(∀ v w',prAt L i v w'→Ext w w'→K (a.put o.dst v) w')→o.wp P a w K Q)∨(Region.wanted o (yielded ops a.tmps)=false∧prAt L i undef w)
theorem wp_region_go {id : Nat} {a0 : Act} {w0 : World} (L : List Pr) (hm : P.follows .mixedOrders=true) (hok : regOG .any ops a0.tmps.size=true)
  (hs : AllSteps (StepGo P .any ops Q L a0 w0.drew) ops.toList 0)
  (he : ∀ (vals : Nat→Value) (w : World),Ext w0.drew w→(∀ i,i < ops.size→prAt L i (vals i) w)→Q .normal (putAll vals ops.toList 0 a0) w) :
  (Code.region id ops true).wp P Q a0 w0:=by
 unfold regOG at hok
 simp only [Bool.and_eq_true,decide_eq_true_eq] at hok
 obtain ⟨⟨h1,h2⟩,h3⟩:=hok
 have hdst : ∀ (i : Nat) (o : Oper),ops[i]? = some o → ∃ d,o.dst=some d∧d < a0.tmps.size:=by
  intro i o ho
  have hm' : o ∈ ops.toList:=by rw [Array.mem_toList_iff];exact Array.mem_of_getElem? ho
  have:=List.all_eq_true.1 h1 o hm'
  cases hd : o.dst with
  | none=>rw [hd] at this;simp at this
  | some d=>rw [hd] at this;exact ⟨d,rfl,by simpa using this⟩
 have hafter : ∀ (i : Nat) (o : Oper),ops[i]? = some o → ∀ e ∈ o.after,Region.binds .any e=true→e.on < i:=by
  intro i o ho e hea hb
  have hi:=(Array.getElem?_eq_some_iff.1 ho).1
  have:=List.all_eq_true.1 h3 i (List.mem_range.2 hi)
  rw [ho] at this
  simp only [Option.map_some,Option.getD_some,Array.all_eq_true_iff_forall_mem] at this
  have:=this e hea
  simpa [hb] using this
 have hinj : ∀ (i j : Nat) (o u : Oper),ops[i]? = some o→ops[j]? = some u→o.dst=u.dst→i=j:=by
  intro i j o u hi hj hd
  have hi' : (ops.toList.map (·.dst))[i]? = some o.dst:=by rw [List.getElem?_map,Array.getElem?_toList,hi];rfl
  have hj' : (ops.toList.map (·.dst))[j]? = some o.dst:=by rw [List.getElem?_map,Array.getElem?_toList,hj,hd];rfl
  exact (List.getElem?_inj (by rw [List.length_map,Array.length_toList];exact (Array.getElem?_eq_some_iff.1 hi).1) h2).1 (hi'.trans hj'.symm)
 refine wp_region_any hm (wpAny_inv (I:=RI ops L a0 w0.drew) ?_ ?_ _ _ _ _ (by unfold unl;refine Nat.le_trans (List.length_filter_le _ _) (by simp)) ?_)
 ·intro listed a w i ⟨r1,r2,r3,r4,r5,r6⟩ hi
  obtain ⟨g1,o,ho,g2⟩:=mem_ready.1 hi
  obtain ⟨d,hd,hdn⟩:=hdst i o ho
  have hst:=AllSteps.get (i:=i) hs (by rw [Array.getElem?_toList];exact ho)
  rw [Nat.zero_add] at hst
  have hput : ∀ v w',prAt L i v w'→Ext w w'→RI ops L a0 w0.drew (listed.setIfInBounds i true) (a.put o.dst v) w':=by
   intro v w' hv hE
   refine ⟨by simpa using r1,by rw [put_def];exact r2,by rw [put_size];exact r3,fun t ht => ?_,fun j hj => ?_,r6.trans hE⟩
   ·rw [put_ne _ _ (ht o (by rw [Array.mem_toList_iff];exact Array.mem_of_getElem? ho))]
    exact r4 t ht
   ·by_cases e : j=i
    ·subst e
     have : (a.put o.dst v).eval (.tmp (dstOf ops j))=v:=by
      unfold dstOf
      rw [ho,Option.bind_some,hd,Option.getD_some,eval_tmp,put_eq _ _ (by rw [r3];exact hdn)]
      rfl
     rw [this]
     exact hv
    ·rw [getD_set_ne false (fun e'=>e e'.symm)] at hj
     have h5:=prAt_ext (r5 j hj) hE
     have hjs : j < ops.size:=by
      rcases Nat.lt_or_ge j listed.size with h | h
      ·rw [← r1];exact h
      ·simp [Array.getElem?_eq_none h] at hj
     obtain ⟨u,hu⟩ : ∃ u,ops[j]? = some u:=⟨ops[j],by simp [hjs]⟩
     obtain ⟨d',hd',-⟩:=hdst j u hu
     have : (a.put o.dst v).eval (.tmp (dstOf ops j))=a.eval (.tmp (dstOf ops j)):=by
      unfold dstOf
      rw [hu,Option.bind_some,hd',Option.getD_some,eval_tmp,eval_tmp,put_ne _ _ (fun e'=>e (hinj j i u o hu ho (by rw [hd',e'])))]
     rw [this]
     exact h5
  have hdep : (Region.wanted o (yielded ops a.tmps)=true ∧ ∀ K : Act→World→Prop,(∀ v w',prAt L i v w'→Ext w w'→K (a.put o.dst v) w')→o.wp P a w K Q)∨(Region.wanted o (yielded ops a.tmps)=false∧prAt L i undef w):=by
   refine hst a w r6 (fun j hj => ?_) (fun t ht => ?_)
   ·obtain ⟨e,he1,he2⟩:=Array.any_eq_true'.1 hj
    simp only [Bool.and_eq_true,beq_iff_eq] at he2
    have:=g2 e he1 he2.1
    rw [he2.2] at this
    exact r5 j this
   ·have:=r4 t (fun o ho'=>by simpa using List.all_eq_true.1 ht o ho')
    rw [eval_tmp,eval_tmp,this]
  unfold wpOp
  simp only [ho]
  rcases hdep with ⟨hw,h⟩ | ⟨hw,h⟩
  ·rw [if_pos hw]
   exact .inl (h _ hput)
  ·rw [if_neg (by rw [hw];simp)]
   exact hput _ _ h (Ext.refl _)
 ·intro listed a w ⟨r1,r2,r3,r4,r5,r6⟩ hr
  have hall : ∀ n i,i < n→i < ops.size→listed.getD i false=true:=by
   intro n
   induction n with
   | zero=>intro i h;omega
   | succ n ih =>
    intro i hi his
    cases hli : listed.getD i true
    ·exfalso
     obtain ⟨o,ho⟩ : ∃ o,ops[i]? = some o:=⟨ops[i],by simp [his]⟩
     have : i ∈ Region.ready .any ops listed:=mem_ready.2 ⟨hli,o,ho,fun e he1 he2=>by
      have:=hafter i o ho e he1 he2
      exact ih _ (by omega) (by omega)⟩
     rw [hr] at this
     cases this
    ·have hsz : i < listed.size:=by rw [r1];exact his
     simpa [hsz] using hli
  have hv:=he (fun i=>a.eval (.tmp (dstOf ops i))) w r6 (fun i hi=>r5 i (hall _ i (Nat.lt_succ_self i) hi))
  have : putAll (fun i=>a.eval (.tmp (dstOf ops i))) ops.toList 0 a0=a:=by
   have e1 : (putAll (fun i=>a.eval (.tmp (dstOf ops i))) ops.toList 0 a0).tmps=a.tmps:=by
    apply Array.ext_getElem?
    intro t
    by_cases hx : ∃ o ∈ ops.toList,o.dst=some t
    ·obtain ⟨o,hom,hd⟩:=hx
     obtain ⟨i,hi⟩:=List.mem_iff_getElem?.1 hom
     have ho : ops[i]? = some o:=by rw [← Array.getElem?_toList];exact hi
     obtain ⟨d,hd',hdn⟩:=hdst i o ho
     rw [hd] at hd'
     cases hd'
     rw [putAll_eq _ ops.toList 0 a0 i o h2 hi hd hdn,Nat.zero_add]
     show some (a.eval (.tmp (dstOf ops i)))=_
     unfold dstOf
     rw [ho,Option.bind_some,hd,Option.getD_some,eval_tmp,Array.getElem?_eq_getElem (by rw [r3];exact hdn)]
     rfl
    ·have hx' : ∀ o ∈ ops.toList,o.dst≠some t:=fun o h1 h2=>hx ⟨o,h1,h2⟩
     rw [putAll_ne _ _ _ _ hx',r4 t hx']
   have e2:=putAll_def (fun i=>a.eval (.tmp (dstOf ops i))) ops.toList 0 a0
   rw [← r2] at e2
   cases a
   cases hp : putAll (fun i=>_) ops.toList 0 a0
   simp_all
  rw [this] at hv
  exact hv
 ·refine ⟨by simp,rfl,rfl,fun _ _=>rfl,fun i hi => ?_,Ext.refl _⟩
  by_cases h : i < ops.size <;> simp [h] at hi
end
end Go.Proofs.YtnplphcnagooeaaGreatDoor

/- A region that draws its order and ends in stores or assignments: what comes ahead of these by what each operation leaves, these one after the other. -/
namespace Go.Proofs.YtnplphcnagooeaaGreatDoor
set_option maxRecDepth 100000
open Go
section
variable {P : Program} {ops : Array Oper} {Q : Exit→Act→World→Prop} {md : Region.Mode}
theorem wpAny_inv_done {I : Array Bool→Act→World→Prop} {D : Array Bool→Prop}
  (hs : ∀ listed a w i,I listed a w → ¬ D listed→i ∈ Region.ready md ops listed→wpOp P ops Q i (I (listed.setIfInBounds i true)) a w)
  (hn : ∀ listed a w,I listed a w → ¬ D listed→Region.ready md ops listed≠[])
  (he : ∀ (fuel : Nat) listed a w,I listed a w→D listed→unl ops listed≤fuel→wpAny P md ops Q fuel listed a w) :
  ∀ (fuel : Nat) (listed : Array Bool) (a : Act) (w : World),unl ops listed≤fuel→I listed a w→wpAny P md ops Q fuel listed a w
 | 0,listed,a,w,hu,hI=>by
  by_cases hD : D listed
  ·exact he _ _ _ _ hI hD hu
  ·exfalso
   apply hn _ _ _ hI hD
   apply List.eq_nil_iff_forall_not_mem.2
   intro i hi
   obtain ⟨h1,o,ho,-⟩:=mem_ready.1 hi
   have hm : i ∈ (List.range ops.size).filter fun i => !listed.getD i true:=List.mem_filter.2 ⟨List.mem_range.2 (Array.getElem?_eq_some_iff.1 ho).1,by rw [h1];rfl⟩
   have:=List.length_pos_of_mem hm
   unfold unl at hu
   omega
 | fuel+1,listed,a,w,hu,hI=>by
  by_cases hD : D listed
  ·exact he _ _ _ _ hI hD hu
  refine ⟨fun h0=>absurd h0 (hn _ _ _ hI hD),fun i hi=>wpOp_mono (fun a' w' hI'=>wpAny_inv_done hs hn he fuel _ a' w' ?_ hI') (hs _ _ _ _ hI hD hi)⟩
  obtain ⟨h1,o,ho,-⟩:=mem_ready.1 hi
  have hlt : i < ops.size:=(Array.getElem?_eq_some_iff.1 ho).1
  have hsz : i < listed.size:=by
   rcases Nat.lt_or_ge i listed.size with h | h
   ·exact h
   ·simp [Array.getElem?_eq_none h] at h1
  have:=filter_lt (p:=fun j => !listed.getD j true) (q:=fun j => !(listed.setIfInBounds i true).getD j true) (fun j hj=>by
   by_cases e : i=j
   ·subst e;simp [hsz] at hj
   ·rwa [getD_set_ne true e] at hj) (List.range ops.size) i (List.mem_range.2 hlt) (by rw [h1];rfl) (by simp [hsz])
  unfold unl at *
  omega
def firstm (n m : Nat) : Array Bool:=((List.range n).map (fun i=>decide (i < m))).toArray
def regOT (md : Region.Mode) (ops : Array Oper) (m n : Nat) : Bool :=
 decide (m≤ops.size) && ((ops.toList.take m).all fun o=>match o.dst with | some d=>decide (d < n) | none=>false) && decide (((ops.toList.take m).map (·.dst)).Nodup)
 && ((List.range m).all fun i=>((ops[i]?).map fun o=>o.after.all fun e => !Region.binds md e || decide (e.on < i)).getD true)
 && ((List.range ops.size).all fun i=>decide (i < m) || ((ops[i]?).map fun o=>((List.range m).all fun j=>o.after.any fun e=>Region.binds md e && e.on == j) || (o.after.any fun e=>Region.binds md e && decide (m≤e.on) && decide (e.on < ops.size))).getD true)
def RT (ops : Array Oper) (m : Nat) (L : List Pr) (a0 : Act) (w0 : World) (listed : Array Bool) (a : Act) (w : World) : Prop :=
 listed.size=ops.size∧a.defers=a0.defers∧a.tmps.size=a0.tmps.size∧(∀ t,(∀ o ∈ ops.toList.take m,o.dst≠some t)→a.tmps[t]? = a0.tmps[t]?)∧(∀ i,i < m→listed.getD i false=true→prAt L i (a.eval (.tmp (dstOf ops i))) w)∧Ext w0 w∧(∀ i,m≤i→i < ops.size→listed.getD i false=false)
theorem wp_region_tail {id : Nat} {a0 : Act} {w0 : World} (L : List Pr) (m t : Nat) (hm : P.follows .mixedOrders=true) (hok : regOT .any ops m a0.tmps.size=true) (ht : decide (t≤unl ops (firstm ops.size m))=true)
  (hs : AllSteps (StepGo P .any ops Q L a0 w0.drew) (ops.toList.take m) 0)
  (he : ∀ (fuel : Nat) (vals : Nat→Value) (w : World),Ext w0.drew w→(∀ i,i < m→prAt L i (vals i) w)→wpAny P .any ops Q (fuel+t) (firstm ops.size m) (putAll vals (ops.toList.take m) 0 a0) w) :
  (Code.region id ops true).wp P Q a0 w0:=by
 unfold regOT at hok
 simp only [Bool.and_eq_true,decide_eq_true_eq] at hok
 obtain ⟨⟨⟨⟨h0,h1⟩,h2⟩,h3⟩,h4⟩:=hok
 have htk : ∀ (i : Nat),i < m→(ops.toList.take m)[i]? = ops[i]? := fun i hi=>by rw [List.getElem?_take,if_pos hi,Array.getElem?_toList]
 have hdst : ∀ (i : Nat) (o : Oper),i < m→ops[i]? = some o → ∃ d,o.dst=some d∧d < a0.tmps.size:=by
  intro i o hi ho
  have hm' : o ∈ ops.toList.take m:=List.mem_iff_getElem?.2 ⟨i,(htk i hi).trans ho⟩
  have:=List.all_eq_true.1 h1 o hm'
  cases hd : o.dst with
  | none=>rw [hd] at this;simp at this
  | some d=>rw [hd] at this;exact ⟨d,rfl,by simpa using this⟩
 have hafter : ∀ (i : Nat) (o : Oper),i < m→ops[i]? = some o → ∀ e ∈ o.after,Region.binds .any e=true→e.on < i:=by
  intro i o hi ho e hea hb
  have:=List.all_eq_true.1 h3 i (List.mem_range.2 hi)
  rw [ho] at this
  simp only [Option.map_some,Option.getD_some,Array.all_eq_true_iff_forall_mem] at this
  have:=this e hea
  simpa [hb] using this
 have hinj : ∀ (i j : Nat) (o u : Oper),i < m→j < m→ops[i]? = some o→ops[j]? = some u→o.dst=u.dst→i=j:=by
  intro i j o u him hjm hi hj hd
  have hi' : ((ops.toList.take m).map (·.dst))[i]? = some o.dst:=by rw [List.getElem?_map,htk i him,hi];rfl
  have hj' : ((ops.toList.take m).map (·.dst))[j]? = some o.dst:=by rw [List.getElem?_map,htk j hjm,hj,hd];rfl
  exact (List.getElem?_inj (List.getElem?_eq_some_iff.1 hi').1 h2).1 (hi'.trans hj'.symm)
 have hgt : ∀ {l : Array Bool} {i : Nat},l.size=ops.size→i < ops.size→l.getD i true=false→l.getD i false=false:=by
  intro l i hl hi h
  have hsz : i < l.size:=by rw [hl];exact hi
  simpa [hsz] using h
 refine wp_region_any hm (wpAny_inv_done (I:=RT ops m L a0 w0.drew) (D:=fun l => ∀ i,i < m→l.getD i false=true) ?_ ?_ ?_ _ _ _ _ (by unfold unl;refine Nat.le_trans (List.length_filter_le _ _) (by simp)) ?_)
 ·intro listed a w i ⟨r1,r2,r3,r4,r5,r6,r7⟩ hnd hi
  obtain ⟨g1,o,ho,g2⟩:=mem_ready.1 hi
  have his : i < ops.size:=(Array.getElem?_eq_some_iff.1 ho).1
  have him : i < m:=by
   rcases Nat.lt_or_ge i m with h | h
   ·exact h
   exfalso
   have h5:=List.all_eq_true.1 h4 i (List.mem_range.2 his)
   rw [ho] at h5
   simp only [Option.map_some,Option.getD_some,Bool.or_eq_true,decide_eq_true_eq] at h5
   rcases h5 with h5 | h5 | h5
   ·omega
   ·apply hnd
    intro j hj
    obtain ⟨e,he1,he2⟩:=Array.any_eq_true'.1 (List.all_eq_true.1 h5 j (List.mem_range.2 hj))
    simp only [Bool.and_eq_true,beq_iff_eq] at he2
    have:=g2 e he1 he2.1
    rwa [he2.2] at this
   ·obtain ⟨e,he1,he2⟩:=Array.any_eq_true'.1 h5
    simp only [Bool.and_eq_true,decide_eq_true_eq] at he2
    have:=g2 e he1 he2.1.1
    rw [r7 e.on he2.1.2 he2.2] at this
    cases this
  obtain ⟨d,hd,hdn⟩:=hdst i o him ho
  have hst:=AllSteps.get (i:=i) hs ((htk i him).trans ho)
  rw [Nat.zero_add] at hst
  have hput : ∀ v w',prAt L i v w'→Ext w w'→RT ops m L a0 w0.drew (listed.setIfInBounds i true) (a.put o.dst v) w':=by
   intro v w' hv hE
   refine ⟨by simpa using r1,by rw [put_def];exact r2,by rw [put_size];exact r3,fun t ht => ?_,fun j hjm hj => ?_,r6.trans hE,fun j hj1 hj2 => ?_⟩
   ·rw [put_ne _ _ (ht o (List.mem_iff_getElem?.2 ⟨i,(htk i him).trans ho⟩))]
    exact r4 t ht
   ·by_cases e : j=i
    ·subst e
     have : (a.put o.dst v).eval (.tmp (dstOf ops j))=v:=by
      unfold dstOf
      rw [ho,Option.bind_some,hd,Option.getD_some,eval_tmp,put_eq _ _ (by rw [r3];exact hdn)]
      rfl
     rw [this]
     exact hv
    ·rw [getD_set_ne false (fun e'=>e e'.symm)] at hj
     have h5:=prAt_ext (r5 j hjm hj) hE
     obtain ⟨u,hu⟩ : ∃ u,ops[j]? = some u:=⟨ops[j]'(by omega),by simp⟩
     obtain ⟨d',hd',-⟩:=hdst j u hjm hu
     have : (a.put o.dst v).eval (.tmp (dstOf ops j))=a.eval (.tmp (dstOf ops j)):=by
      unfold dstOf
      rw [hu,Option.bind_some,hd',Option.getD_some,eval_tmp,eval_tmp,put_ne _ _ (fun e'=>e (hinj j i u o hjm him hu ho (by rw [hd',e'])))]
     rw [this]
     exact h5
   ·rw [getD_set_ne false (by omega)]
    exact r7 j hj1 hj2
  have hdep : (Region.wanted o (yielded ops a.tmps)=true ∧ ∀ K : Act→World→Prop,(∀ v w',prAt L i v w'→Ext w w'→K (a.put o.dst v) w')→o.wp P a w K Q)∨(Region.wanted o (yielded ops a.tmps)=false∧prAt L i undef w):=by
   refine hst a w r6 (fun j hj => ?_) (fun t ht => ?_)
   ·obtain ⟨e,he1,he2⟩:=Array.any_eq_true'.1 hj
    simp only [Bool.and_eq_true,beq_iff_eq] at he2
    have h6:=g2 e he1 he2.1
    have h7:=hafter i o him ho e he1 he2.1
    rw [he2.2] at h6 h7
    exact r5 j (by omega) h6
   ·have:=r4 t (fun o ho'=>by simpa using List.all_eq_true.1 ht o (List.mem_of_mem_take ho'))
    rw [eval_tmp,eval_tmp,this]
  unfold wpOp
  simp only [ho]
  rcases hdep with ⟨hw,h⟩ | ⟨hw,h⟩
  ·rw [if_pos hw]
   exact .inl (h _ hput)
  ·rw [if_neg (by rw [hw];simp)]
   exact hput _ _ h (Ext.refl _)
 ·intro listed a w ⟨r1,r2,r3,r4,r5,r6,r7⟩ hnd hr
  apply hnd
  have hall : ∀ n i,i < n→i < m→listed.getD i false=true:=by
   intro n
   induction n with
   | zero=>intro i h;omega
   | succ n ih =>
    intro i hi him
    cases hli : listed.getD i true
    ·exfalso
     obtain ⟨o,ho⟩ : ∃ o,ops[i]? = some o:=⟨ops[i]'(by omega),by simp⟩
     have : i ∈ Region.ready .any ops listed:=mem_ready.2 ⟨hli,o,ho,fun e he1 he2=>by
      have:=hafter i o him ho e he1 he2
      exact ih _ (by omega) (by omega)⟩
     rw [hr] at this
     cases this
    ·have hsz : i < listed.size:=by omega
     simpa [hsz] using hli
  exact fun i hi=>hall _ i (Nat.lt_succ_self i) hi
 ·intro fuel listed a w ⟨r1,r2,r3,r4,r5,r6,r7⟩ hD hu
  have hl : listed=firstm ops.size m:=by
   apply Array.ext_getElem?
   intro i
   by_cases hi : i < ops.size
   ·have hsz : i < listed.size:=by rw [r1];exact hi
    have e1 : (firstm ops.size m)[i]? = some (decide (i < m)):=by simp [firstm,hi]
    rw [e1]
    by_cases him : i < m
    ·have:=hD i him
     simp [hsz] at this
     simp [hsz,this,him]
    ·have:=r7 i (by omega) hi
     simp [hsz] at this
     simp [hsz,this,him]
   ·have e1 : (firstm ops.size m)[i]? = none:=by simp [firstm];omega
    rw [e1]
    exact Array.getElem?_eq_none (by omega)
  subst hl
  have hv:=he (fuel - t) (fun i=>a.eval (.tmp (dstOf ops i))) w r6 (fun i hi=>r5 i hi (hD i hi))
  have htu:=of_decide_eq_true ht
  rw [show fuel - t+t=fuel by omega] at hv
  have : putAll (fun i=>a.eval (.tmp (dstOf ops i))) (ops.toList.take m) 0 a0=a:=by
   have e1 : (putAll (fun i=>a.eval (.tmp (dstOf ops i))) (ops.toList.take m) 0 a0).tmps=a.tmps:=by
    apply Array.ext_getElem?
    intro t
    by_cases hx : ∃ o ∈ ops.toList.take m,o.dst=some t
    ·obtain ⟨o,hom,hd⟩:=hx
     obtain ⟨i,hi⟩:=List.mem_iff_getElem?.1 hom
     have him : i < m:=by
      have:=(List.getElem?_eq_some_iff.1 hi).1
      rw [List.length_take] at this
      omega
     have ho : ops[i]? = some o:=(htk i him).symm.trans hi
     obtain ⟨d,hd',hdn⟩:=hdst i o him ho
     rw [hd] at hd'
     cases hd'
     rw [putAll_eq _ (ops.toList.take m) 0 a0 i o h2 hi hd hdn,Nat.zero_add]
     show some (a.eval (.tmp (dstOf ops i)))=_
     unfold dstOf
     rw [ho,Option.bind_some,hd,Option.getD_some,eval_tmp,Array.getElem?_eq_getElem (by rw [r3];exact hdn)]
     rfl
    ·have hx' : ∀ o ∈ ops.toList.take m,o.dst≠some t:=fun o h1 h2=>hx ⟨o,h1,h2⟩
     rw [putAll_ne _ _ _ _ hx',r4 t hx']
   have e2:=putAll_def (fun i=>a.eval (.tmp (dstOf ops i))) (ops.toList.take m) 0 a0
   rw [← r2] at e2
   cases a
   cases hp : putAll (fun i=>_) (ops.toList.take m) 0 a0
   simp_all
  rw [this] at hv
  exact hv
 ·refine ⟨by simp,rfl,rfl,fun _ _=>rfl,fun i _ hi => ?_,Ext.refl _,fun i _ hi=>by simp [hi]⟩
  by_cases h : i < ops.size <;> simp [h] at hi
theorem wp_region_tail' {id : Nat} {a0 : Act} {w0 : World} (L : List Pr) (m t : Nat) (hm : P.follows .mixedOrders=true) (hok : regOT .any ops m a0.tmps.size=true) (ht : decide (t≤unl ops (firstm ops.size m))=true)
  (hs : AllSteps (StepGo P .any ops Q L a0 w0.drew) (ops.toList.take m) 0)
  (he : ∀ (fuel : Nat) (vals : Nat→Value) (A : Act) (w : World),A=putAll vals (ops.toList.take m) 0 a0→(∀ i,i < m→A.eval (.tmp (dstOf ops i))=vals i)→Ext w0.drew w→(∀ i,i < m→prAt L i (vals i) w)→wpAny P .any ops Q (fuel+t) (firstm ops.size m) A w) :
  (Code.region id ops true).wp P Q a0 w0:=by
 refine wp_region_tail L m t hm hok ht hs (fun fuel vals w hE hv=>he fuel vals _ w rfl (fun i hi => ?_) hE hv)
 unfold regOT at hok
 simp only [Bool.and_eq_true,decide_eq_true_eq] at hok
 obtain ⟨⟨⟨⟨h0,h1⟩,h2⟩,-⟩,-⟩:=hok
 obtain ⟨o,ho⟩ : ∃ o,ops[i]? = some o:=⟨ops[i]'(by omega),by simp⟩
 have htk : (ops.toList.take m)[i]? = some o:=by rw [List.getElem?_take,if_pos hi,Array.getElem?_toList];exact ho
 have h5:=List.all_eq_true.1 h1 o (List.mem_iff_getElem?.2 ⟨i,htk⟩)
 cases hd : o.dst with
 | none=>rw [hd] at h5;simp at h5
 | some d =>
  rw [hd] at h5
  unfold dstOf
  rw [ho,Option.bind_some,hd,Option.getD_some,eval_tmp,putAll_eq _ _ 0 a0 i o h2 htk hd (by simpa using h5),Nat.zero_add]
  rfl
end
end Go.Proofs.YtnplphcnagooeaaGreatDoor
