/- Several texts in one: CelW2, CelW3, CelW4, CelW5, CelW6, CelW7, CelW8, MonA, MonE. -/
import Derived.Test.YtoanoodfacmieaaDoorQ05
import Derived.Deep.RegionHeld3
import Derived.Deep.DeepMust
import Derived.Deep.RegionWith
import Derived.Deep.DeepCutAuto
import Derived.Laws.MakeOwn
import Derived.Laws.OwnMore
import Derived.Deep.RegionLaw
import Derived.RegionTactic
import Derived.Test.YtoanoodfacmieaaDoorQ04
import Derived.Test.YtoanoodfacmieaaDoorQ03
/- Contracts: the check of a memory, the program's and the reference's. -/
namespace Go.Proofs.YtoanoodfacmieaaDoor
set_option maxRecDepth 100000
open Go.RowKit
theorem all_take_succ' {α : Type} {p : α→Bool} {l : List α} {k : Nat} {x : α} (h : (l.take k).all p=true) (hx : l[k]? = some x) (hp : p x=true) : (l.take (k+1)).all p=true:=by
 rw [List.take_add_one,hx]
 simp [List.all_append,h,hp]
theorem all_miss' {α : Type} {p : α→Bool} {l : List α} {k : Nat} {x : α} (hx : l[k]? = some x) (hp : p x=false) : l.all p=false:=by
 rw [List.all_eq_false]
 exact ⟨x,List.mem_of_getElem? hx,by simp [hp]⟩
def cellIn (live : Bool) (c : Cell) : Bool:=c.ok && (live || c.k == 0)
theorem okAl_step {next least : Int} {l : List Alloc} {k : Nat} {x : Alloc} (hx : l[k]? = some x) (h1 : least≤x.num) (h2 : x.num < next) (h3 : 1≤x.cells.length) (h4 : x.cells.length≤2) (h5 : x.cells.all (cellIn x.live)=true) :
  okAl next least (l.drop k)=okAl next (x.num+1) (l.drop (k+1)):=by
 have h5' : x.cells.all (fun c=>c.ok && (x.live || c.k == 0))=true:=h5
 rw [okAl_drop hx,h5']
 simp [h1,h2,h3,h4]
theorem okAl_stop {next least : Int} {l : List Alloc} {k : Nat} {x : Alloc} (hx : l[k]? = some x) (h : ¬ (least≤x.num∧x.num < next∧1≤x.cells.length∧x.cells.length≤2∧x.cells.all (cellIn x.live)=true)) : okAl next least (l.drop k)=false:=by
 rw [okAl_drop hx,← Bool.not_eq_true]
 intro e
 simp only [Bool.and_eq_true,decide_eq_true_eq] at e
 exact h ⟨e.1.1.1.1.1,e.1.1.1.1.2,e.1.1.1.2,e.1.1.2,e.1.2⟩
theorem memErr_ok {l : List Alloc} {next : Int} (h : okM l next=true) : memErr l next=0:=by simp [memErr,h]
theorem memErr_bad {l : List Alloc} {next : Int} (h : okM l next=false) : memErr l next=8:=by simp [memErr,h]
set_option maxHeartbeats 1600000 in
theorem allocs_Check {l : List Alloc} {next : Int} {s : Value} {w : World} (hl : Als w s l) (hn : i64B next) :
  Calls Tryd.prog 41 #[.agg #[s,.int .i64 next]] w fun e w'=>e = .returned (.int .i64 (memErr l next))∧Ext w w':=by
 have hE0:=(Ext.refl w).alloc (.cells #[s,.int .i64 next] 31)
 obtain ⟨a,cp,rfl,hlc,hcm,-⟩:=hl.form
 unfold maxLen at hcm
 obtain ⟨hn1,hn2⟩:=hn
 by_cases h4 : l.length≤400
 ·have hd : decide ((400 : Int) < (l.length : Int))=false:=decide_eq_false (by omega)
  cases hb : inB next
  ·have hb':=Lib.hid hb
   go_enter Tryd.func41,Tryd.ntmps41
   go_wp2_with (go_at_call 73;refine (allocs_in _ _).mono ?_;rintro e w' ⟨rfl,rfl⟩)
   go_ret
   exact ⟨by rw [memErr_bad (by simp [okM,hb'.out])];rfl,hE0⟩
  ·have hb':=Lib.hid hb
   have hbnd : 0≤next∧next≤1000000:=by simpa [inB] using hb
   have c0 : (w.alloc (.cells #[.slice a l.length cp,.int .i64 next] 31)).cell? ⟨w.heap.size,0,none⟩=some (.slice a l.length cp):=by simp
   have c1 : (w.alloc (.cells #[.slice a l.length cp,.int .i64 next] 31)).cell? ⟨w.heap.size,1,none⟩=some (.int .i64 next):=by simp
   go_enter Tryd.func41,Tryd.ntmps41
   go_wp2_with (go_at_call 73;refine (allocs_in _ _).mono ?_;rintro e w' ⟨rfl,rfl⟩)
   obtain ⟨w1,hw1⟩ : ∃ w1,w.alloc (.cells #[.slice a l.length cp,.int .i64 next] 31)=w1:=⟨_,rfl⟩
   rw [hw1] at hE0 c0 c1 ⊢
   clear hw1
   go_loopw [3,21] (fun lv iv wr => ∃ (k : Nat) (least : Int),k≤l.length∧iv = .int .i64 k∧lv = .int .i64 least∧(0≤least∧least≤1000000)∧Ext w1 wr∧Hid (okAl next 0 l=okAl next least (l.drop k))) (fun _ iv _=>l.length - (intOf iv).toNat)
   case atStart=>exact ⟨0,0,Nat.zero_le _,rfl,rfl,by omega,Ext.refl _,by simp [Hid]⟩
   case round =>
    obtain ⟨k,least,hk,rfl,rfl,hleast,hE,hN⟩:=hrel
    have hF:=hE0.trans hE
    by_cases hlt : k < l.length
    ·obtain ⟨x,hx⟩ : ∃ x,l[k]? = some x:=⟨l[k],by simp [hlt]⟩
     obtain ⟨b,off,sv,rfl,hbb,d0,d1,d2,hcl⟩:=(hl.ext hF).cell hx
     have hX:=Lib.hid hx
     obtain ⟨ca,ccp,rfl,hclc,hccm,-⟩:=hcl.form
     unfold maxLen at hccm
     have hCl:=Lib.hid hcl
     have e0:=hE.cell c0
     have e1:=hE.cell c1
     have hblk : w.heap.size < wr.heap.size:=World.block_lt_of_cell? wr _ e0
     clear hx hcl
     by_cases hg : least≤x.num∧x.num < next∧1≤x.cells.length∧x.cells.length≤2
     ·have g0 : decide (x.num < least)=false:=decide_eq_false (by omega)
      have g1 : decide (next≤x.num)=false:=decide_eq_false (by omega)
      have g2 : ((x.cells.length : Int) == 0)=false:=beq_eq_false_iff_ne.2 (by omega)
      have g3 : decide ((2 : Int) < (x.cells.length : Int))=false:=decide_eq_false (by omega)
      have hx1 : 0≤x.num∧x.num≤1000000:=by omega
      have hx2 : Hid (0≤x.num+1∧x.num+1≤1000000):=Hid.mk (by omega)
      have hG:=Lib.hid hg
      clear hg
      have hF2:=hF.trans ((Ext.refl wr).alloc (.cells #[.int .i64 x.num,.bool x.live,.slice ca x.cells.length ccp] 101))
      have hE2:=hE.trans ((Ext.refl wr).alloc (.cells #[.int .i64 x.num,.bool x.live,.slice ca x.cells.length ccp] 101))
      have b0 : (wr.alloc (.cells #[.int .i64 x.num,.bool x.live,.slice ca x.cells.length ccp] 101)).cell? ⟨wr.heap.size,0,none⟩=some (.int .i64 x.num):=by simp
      have b1 : (wr.alloc (.cells #[.int .i64 x.num,.bool x.live,.slice ca x.cells.length ccp] 101)).cell? ⟨wr.heap.size,1,none⟩=some (.bool x.live):=by simp
      replace hCl:=Lib.hid (hCl.out.ext ((Ext.refl wr).alloc (.cells #[.int .i64 x.num,.bool x.live,.slice ca x.cells.length ccp] 101)))
      go_wp2
      obtain ⟨w2,hw2⟩ : ∃ w2,wr.alloc (.cells #[.int .i64 x.num,.bool x.live,.slice ca x.cells.length ccp] 101)=w2:=⟨_,rfl⟩
      rw [hw2] at hF2 hE2 b0 b1 hCl ⊢
      clear hw2
      go_loopw [54] (fun jv wq => ∃ j : Nat,j≤x.cells.length∧jv = .int .i64 j∧Ext w2 wq∧Hid ((x.cells.take j).all (cellIn x.live)=true)) (fun jv _=>x.cells.length - (intOf jv).toNat)
      case atStart=>exact ⟨0,Nat.zero_le _,rfl,Ext.refl _,by simp [Hid]⟩
      case round =>
       obtain ⟨j,hj,rfl,hE3,hA⟩:=hrel
       have hF3:=hF2.trans hE3
       replace b0:=hE3.cell b0
       replace b1:=hE3.cell b1
       replace hE2:=hE2.trans hE3
       have hblk2:=World.block_lt_of_cell? _ _ b0
       by_cases hjl : j < x.cells.length
       ·obtain ⟨c,hc⟩ : ∃ c,x.cells[j]? = some c:=⟨x.cells[j],by simp [hjl]⟩
        obtain ⟨cb,coff,rfl,hcb,f0,f1,f2,f3,f4⟩:=(hCl.out.ext hE3).cell hc
        have hXC:=Lib.hid hc
        clear hc
        have hCk:=Lib.hid (allocs_CheckCell c)
        unfold Cell.val at hCk
        have z0 : (wr.alloc (.cells #[.int .u8 c.k,.int .i64 c.n,.int .i64 c.a,.int .i64 c.o,.int .i64 c.t] 28)).cell? ⟨wr.heap.size,0,none⟩=some (.int .u8 c.k):=by simp
        have hEa:=(Ext.refl wr).alloc (.cells #[.int .u8 c.k,.int .i64 c.n,.int .i64 c.a,.int .i64 c.o,.int .i64 c.t] 28)
        replace b1:=hEa.cell b1
        have hZ:=Lib.hid z0
        have hB:=Lib.hid b1
        clear z0 b1
        cases hok : c.ok
        ·have hce : Hid (cellErr c=8):=Hid.mk (by simp [cellErr,hok])
         have hbad:=Lib.hid (okAl_stop hX.out (next:=next) (least:=least) (fun h=>by have:=h.2.2.2.2;rw [all_miss' hXC.out (by simp [cellIn,hok])] at this;cases this))
         clear hok
         go_wp2_with fail
         refine (hCk.out _).mono ?_
         rintro e w4 ⟨rfl,hE4⟩
         rw [hce.out]
         go_wp2
         go_ret
         exact ⟨by rw [memErr_bad (by simp [okM,hN.out,hbad.out])];rfl,(hF3.trans hEa).trans hE4⟩
        ·have hce : Hid (cellErr c=0):=Hid.mk (by simp [cellErr,hok])
         cases hlv : x.live
         ·by_cases hk0 : c.k=0
          ·have hk0' : (c.k != 0)=false:=by simp [hk0]
           have hA2:=Lib.hid (all_take_succ' hA.out hXC.out (by simp [cellIn,hok,hk0]))
           have hlv':=Lib.hid hlv
           clear hok hk0 hlv
           go_wp2_with fail
           refine (hCk.out _).mono ?_
           rintro e w4 ⟨rfl,hE4⟩
           rw [hce.out]
           have z0:=hE4.cell hZ.out
           have b1:=hE4.cell hB.out
           rw [hlv'.out] at b1
           go_wp2
           go_roundw
           case rel=>exact ⟨j+1,by omega,by go_num,(hE3.trans hEa).trans hE4,by have h:=hA2.out;rw [hlv'.out] at h;exact h⟩
           case measure=>simp [intOf];omega
          ·have hk0' : (c.k != 0)=true:=by simp [hk0]
           have hbad:=Lib.hid (okAl_stop hX.out (next:=next) (least:=least) (fun h=>by have:=h.2.2.2.2;rw [all_miss' hXC.out (by simp [cellIn,hok,hlv,hk0])] at this;cases this))
           have hlv':=Lib.hid hlv
           clear hok hk0 hlv
           go_wp2_with fail
           refine (hCk.out _).mono ?_
           rintro e w4 ⟨rfl,hE4⟩
           rw [hce.out]
           have z0:=hE4.cell hZ.out
           have b1:=hE4.cell hB.out
           rw [hlv'.out] at b1
           go_wp2
           go_ret
           exact ⟨by rw [memErr_bad (by simp [okM,hN.out,hbad.out])];rfl,(hF3.trans hEa).trans hE4⟩
         ·have hA2:=Lib.hid (all_take_succ' hA.out hXC.out (by simp [cellIn,hok,hlv]))
          have hlv':=Lib.hid hlv
          clear hok hlv
          go_wp2_with fail
          refine (hCk.out _).mono ?_
          rintro e w4 ⟨rfl,hE4⟩
          rw [hce.out]
          have b1:=hE4.cell hB.out
          rw [hlv'.out] at b1
          go_wp2
          go_roundw
          case rel=>exact ⟨j+1,by omega,by go_num,(hE3.trans hEa).trans hE4,by have h:=hA2.out;rw [hlv'.out] at h;exact h⟩
          case measure=>simp [intOf];omega
       ·have hje : j=x.cells.length:=by omega
        subst hje
        have hA':=hA.out
        rw [List.take_length] at hA'
        have hG':=hG.out
        have hst:=Lib.hid (hN.out.trans (okAl_step hX.out hG'.1 hG'.2.1 hG'.2.2.1 hG'.2.2.2 hA'))
        clear hA' hG'
        go_wp2
        go_roundw
        case rel=>exact ⟨k+1,x.num+1,by omega,by go_num,rfl,hx2.out,hE2,hst.out⟩
        case measure=>simp [intOf];omega
     ·have hbad:=Lib.hid (okAl_stop hX.out (next:=next) (least:=least) (fun h=>hg ⟨h.1,h.2.1,h.2.2.1,h.2.2.2.1⟩))
      by_cases q0 : x.num < least
      ·have q0' : decide (x.num < least)=true:=decide_eq_true q0
       go_wp2
       go_ret
       exact ⟨by rw [memErr_bad (by simp [okM,hN.out,hbad.out])];rfl,hF.trans ((Ext.refl wr).alloc _)⟩
      ·have q0' : decide (x.num < least)=false:=decide_eq_false q0
       by_cases q1 : next≤x.num
       ·have q1' : decide (next≤x.num)=true:=decide_eq_true q1
        go_wp2
        go_ret
        exact ⟨by rw [memErr_bad (by simp [okM,hN.out,hbad.out])];rfl,hF.trans ((Ext.refl wr).alloc _)⟩
       ·have q1' : decide (next≤x.num)=false:=decide_eq_false q1
        by_cases q2 : x.cells.length=0
        ·have q2' : ((x.cells.length : Int) == 0)=true:=beq_iff_eq.2 (by omega)
         clear q2
         go_wp2
         go_ret
         exact ⟨by rw [memErr_bad (by simp [okM,hN.out,hbad.out])];rfl,hF.trans ((Ext.refl wr).alloc _)⟩
        ·have q2' : ((x.cells.length : Int) == 0)=false:=beq_eq_false_iff_ne.2 (by omega)
         have q3' : decide ((2 : Int) < (x.cells.length : Int))=true:=decide_eq_true (by omega)
         clear q2
         clear hg
         go_wp2
         go_ret
         exact ⟨by rw [memErr_bad (by simp [okM,hN.out,hbad.out])];rfl,hF.trans ((Ext.refl wr).alloc _)⟩
    ·have hkl : k=l.length:=by omega
     subst hkl
     go_wp2
     go_ret
     exact ⟨by rw [memErr_ok (by simp [okM,hN.out,okAl,hb'.out,h4])];rfl,hF⟩
 ·have hd : decide ((400 : Int) < (l.length : Int))=true:=decide_eq_true (by omega)
  go_enter Tryd.func41,Tryd.ntmps41
  go_wp2
  go_ret
  exact ⟨by rw [memErr_bad (by simp [okM,h4])];rfl,hE0⟩
end Go.Proofs.YtoanoodfacmieaaDoor

/- Contracts: Great, At, SameAlloc and Same of the reference of layer 26; find of the program. -/
namespace Go.Proofs.YtoanoodfacmieaaDoor
set_option maxRecDepth 100000
open Go.RowKit
def numIs (n : Int) (a : Alloc) : Bool:=a.num == n
def ixM : Option Nat→Int
 | none => -1
 | some i=>i
def idxM (l : List Alloc) (n : Int) : Int:=ixM (atNum l n)
theorem atNum_lt {l : List Alloc} {n : Int} {i : Nat} (h : atNum l n=some i) : i < l.length∧(l.getD i Alloc.zero).num=n:=by
 unfold atNum at h
 rw [List.findIdx?_eq_some_iff_getElem] at h
 obtain ⟨hi,hp,_⟩:=h
 refine ⟨hi,?_⟩
 rw [List.getD_eq_getElem?_getD,List.getElem?_eq_getElem hi]
 simpa using hp
theorem any_take_succ'' {α : Type} {p : α→Bool} {l : List α} {k : Nat} {x : α} (h : (l.take k).any p=false) (hx : l[k]? = some x) (hp : p x=false) : (l.take (k+1)).any p=false:=by
 rw [List.take_add_one,hx]
 simp [List.any_append,h,hp]
theorem callFunc_allocsfind (args : Array Value) (w : World) : (callFunc 88 args).run Tryd.prog w = .ok (.enter 88 args) w:=by kernel_rfl
def PredA (g : Nat) (cap : Array Value) (W : World) (p : Alloc→Bool) : Prop :=
 ∀ (x : Alloc) (s : Value) (w : World),Ext W w→Calls Tryd.prog g (#[.agg #[.int .i64 x.num,.bool x.live,s]] ++ cap) w fun e w'=>e = .returned (.bool (p x))∧Ext w w'
set_option maxHeartbeats 400000 in
theorem allocs_find1 (n : Int) (B : Nat) (W : World) (hc : W.cell? ⟨B,0,none⟩=some (.int .i64 n)) : PredA 88 #[.pointer (some ⟨B,0,none⟩)] W (numIs n):=by
 intro x s w hW
 obtain ⟨num,live,cs⟩:=x
 have hcw:=hW.cell hc
 have hB:=World.block_lt_of_cell? _ _ hcw
 have hE:=(Ext.refl w).alloc (.cells #[.int .i64 num,.bool live,s] 101)
 clear hc hW
 show Calls Tryd.prog 88 #[.agg #[.int .i64 num,.bool live,s],.pointer (some ⟨B,0,none⟩)] w _
 go_enter Tryd.func88,Tryd.ntmps88
 go_wp2
 go_ret
 exact ⟨rfl,hE⟩
set_option maxHeartbeats 800000 in
theorem indexFunc_alloc {g : Nat} {cap : Array Value} {p : Alloc→Bool} {l : List Alloc} {v : Value} {w : World} (hg : ∀ args w,(callFunc g args).run Tryd.prog w = .ok (.enter g args) w)
  (hp : PredA g cap w p) (hl : Als w v l) : Calls Tryd.prog 75 #[v,.func (.func g) #[] cap] w fun e w'=>e = .returned (.int .i64 (ixM (l.findIdx? p)))∧Ext w w':=by
 obtain ⟨a,cp,rfl,hlc,hcm,-⟩:=hl.form
 unfold maxLen at hcm
 have hL:=Lib.hid hl
 clear hl
 go_enter Tryd.func75,Tryd.ntmps75
 go_wp2
 go_loopw [8] (fun i wr => ∃ k : Nat,k≤l.length∧i = .int .i64 k∧Ext w wr∧Hid ((l.take k).any p=false)) (fun i _=>l.length - (intOf i).toNat)
 case atStart=>exact ⟨0,Nat.zero_le _,rfl,Ext.refl _,by simp [Hid]⟩
 case round =>
  obtain ⟨k,hk,rfl,hE,hN⟩:=hrel
  by_cases hlt : k < l.length
  ·obtain ⟨x,hx⟩ : ∃ x,l[k]? = some x:=⟨l[k],by simp [hlt]⟩
   obtain ⟨b,off,sv,rfl,hbb,d0,d1,d2,hcl⟩:=(hL.out.ext hE).cell hx
   have hX:=Lib.hid hx
   clear hx hcl
   cases hpx : p x
   all_goals
    have hP:=Lib.hid hpx
    clear hpx
    go_wp2_with fail
    refine (hp x sv wr hE).mono ?_
    rintro e w1 ⟨rfl,hE1⟩
    have hpx:=hP.out
    go_wp2
   ·go_roundw
    case rel=>exact ⟨k+1,by omega,by go_num,hE.trans hE1,any_take_succ'' hN.out hX.out hP.out⟩
    case measure=>simp [intOf];omega
   ·go_ret
    refine ⟨?_,hE.trans hE1⟩
    have : l.findIdx? p=some k:=by
     rw [List.findIdx?_eq_some_iff_getElem]
     obtain ⟨hk,rfl⟩:=List.getElem?_eq_some_iff.1 hX.out
     refine ⟨hk,hP.out,fun j hj => ?_⟩
     have h:=hN.out
     simp only [List.any_eq_false] at h
     have:=h l[j] (by rw [List.mem_iff_getElem?];exact ⟨j,by rw [List.getElem?_take,if_pos hj];simp⟩)
     simpa using this
    rw [this];rfl
  ·have hkl : k=l.length:=by omega
   subst hkl
   have hN':=hN.out
   rw [List.take_length] at hN'
   have hg : Hid (l.findIdx? p=none):=Hid.mk (by rw [List.findIdx?_eq_none_iff];simpa [List.any_eq_false] using hN')
   clear hN'
   go_wp2
   go_ret
   exact ⟨by rw [hg.out];rfl,hE⟩
set_option maxHeartbeats 400000 in
theorem allocs_find {l : List Alloc} {next : Int} {s : Value} {w : World} (n : Int) (hl : Als w s l) :
  Calls Tryd.prog 71 #[.agg #[s,.int .i64 next],.int .i64 n] w fun e w'=>e = .returned (.int .i64 (idxM l n))∧Ext w w':=by
 have hE0:=((Ext.refl w).alloc (.cells #[s,.int .i64 next] 31)).alloc (.cells #[.int .i64 n] 3)
 have hc : ((w.alloc (.cells #[s,.int .i64 next] 31)).alloc (.cells #[.int .i64 n] 3)).cell? ⟨w.heap.size+1,0,none⟩=some (.int .i64 n):=by simp
 have hI:=Lib.hid (indexFunc_alloc callFunc_allocsfind (allocs_find1 n (w.heap.size+1) _ hc) (hl.ext hE0))
 have hmf : ∀ (fn : Fn) (first cap : Array Value) (w : World),(Instr.makeFunc fn first cap).run Tryd.prog w = .ok (.func fn first cap) w:=fun _ _ _ _=>rfl
 obtain ⟨a,cp,rfl,-⟩:=hl.form
 clear hl hc
 go_enter Tryd.func71,Tryd.ntmps71
 go_wp2_with fail
 refine hI.out.mono ?_
 rintro e w1 ⟨rfl,hE1⟩
 go_wp2
 go_ret
 exact ⟨rfl,hE0.trans hE1⟩
end Go.Proofs.YtoanoodfacmieaaDoor

/- Contracts: two memories that read alike are the same (SameAlloc, Same, SameCells of the references). -/
namespace Go.Proofs.YtoanoodfacmieaaDoor
set_option maxRecDepth 100000
open Go.RowKit
end Go.Proofs.YtoanoodfacmieaaDoor

/- Contracts: copies of slices of cells and of allocations, clone. -/
namespace Go.Proofs.YtoanoodfacmieaaDoor
set_option maxRecDepth 100000
open Go.RowKit
theorem Cell.infoE : ∃ i z,Tryd.prog.info? 28=some i∧i.zero=some z∧i.size=5∧z.cells.size=5∧i.bytes=40:=by
 have h : (Tryd.prog.info? 28).map (fun i=>(i.zero.map (fun z=>z.cells.size),i.size,i.bytes))=some (some 5,5,40):=by kernel_rfl
 cases hi : Tryd.prog.info? 28 with
 | none=>rw [hi] at h;simp at h
 | some i =>
  rw [hi] at h
  simp only [Option.map_some,Option.some.injEq,Prod.mk.injEq] at h
  obtain ⟨h1,h2,h3⟩:=h
  cases hz : i.zero with
  | none=>rw [hz] at h1;simp at h1
  | some z =>
   rw [hz] at h1
   exact ⟨i,z,rfl,hz,h2,by simpa using h1,h3⟩
theorem Alloc.infoE : ∃ i z,Tryd.prog.info? 101=some i∧i.zero=some z∧i.size=3∧z.cells.size=3∧i.bytes=40:=by
 have h : (Tryd.prog.info? 101).map (fun i=>(i.zero.map (fun z=>z.cells.size),i.size,i.bytes))=some (some 3,3,40):=by kernel_rfl
 cases hi : Tryd.prog.info? 101 with
 | none=>rw [hi] at h;simp at h
 | some i =>
  rw [hi] at h
  simp only [Option.map_some,Option.some.injEq,Prod.mk.injEq] at h
  obtain ⟨h1,h2,h3⟩:=h
  cases hz : i.zero with
  | none=>rw [hz] at h1;simp at h1
  | some z =>
   rw [hz] at h1
   exact ⟨i,z,rfl,hz,h2,by simpa using h1,h3⟩
def zcells (n : Nat) : Array Value:=((List.replicate n Cell.zero).flatMap Cell.row).toArray
theorem zcells_made (n : Nat) : madeCells #[.int .u8 0,.int .i64 0,.int .i64 0,.int .i64 0,.int .i64 0] (n * 5)=zcells n:=by
 apply Array.toList_inj.1
 apply List.ext_getElem?
 intro j
 have hlen : ((List.replicate n Cell.zero).flatMap Cell.row).length=n * 5:=by rw [rows_len (k:=5) Cell.row Cell.row_len,List.length_replicate]
 by_cases hj : j < n * 5
 ·have h1:=rows_get Cell.row Cell.row_len (List.replicate n Cell.zero) (j / 5) (j % 5) Cell.zero (by rw [List.getElem?_replicate,if_pos (by omega)]) (Nat.mod_lt _ (by omega))
  rw [show j / 5 * 5+j % 5=j by omega] at h1
  show _=((List.replicate n Cell.zero).flatMap Cell.row)[j]?
  rw [h1]
  have h5 : j % 5 < 5:=Nat.mod_lt _ (by omega)
  generalize hm : j % 5=m at *
  have : m=0∨m=1∨m=2∨m=3∨m=4:=by omega
  rcases this with rfl | rfl | rfl | rfl | rfl <;> simp [madeCells,hj,hm,Cell.row,Cell.zero]
 ·rw [List.getElem?_eq_none (by rw [Array.length_toList,size_madeCells];omega),List.getElem?_eq_none (by show _≤_;rw [show (zcells n).toList=(List.replicate n Cell.zero).flatMap Cell.row from rfl,hlen];omega)]
theorem make_Cells (n : Nat) (hn : n≤1000000) (W : World) : (Instr.makeSlice 24 (.int .i64 (n : Int)) (.int .i64 (n : Int))).run Tryd.prog W = .ok (.slice (some ⟨W.heap.size,0,none⟩) n n) (W.alloc (.cells (zcells n) 28)):=by
 have h : (Tryd.prog.info? 28).map (fun i=>(i.zero.map (fun z=>z.cells),i.size,i.bytes))=some (some #[.int .u8 0,.int .i64 0,.int .i64 0,.int .i64 0,.int .i64 0],5,40):=by kernel_rfl
 cases hi : Tryd.prog.info? 28 with
 | none=>rw [hi] at h;simp at h
 | some i =>
  rw [hi] at h
  simp only [Option.map_some,Option.some.injEq,Prod.mk.injEq] at h
  obtain ⟨h1,h2,h3⟩:=h
  cases hz : i.zero with
  | none=>rw [hz] at h1;simp at h1
  | some z =>
   rw [hz] at h1
   have hz' : z.cells=#[.int .u8 0,.int .i64 0,.int .i64 0,.int .i64 0,.int .i64 0]:=by simpa using h1
   have:=run_make W 24 28 i z Tryd.underlying24 hi hz .i64 .i64 n n (by omega) (Int.le_refl _) (by rw [h3];omega) (by omega)
   rw [this,hz',h2,Int.toNat_natCast,zcells_made]
theorem zcells_own (n : Nat) (hn : n≤1000000) (W : World) {B : Nat} (hB : B≤W.heap.size) : Own (W.alloc (.cells (zcells n) 28)) B 28 5 (.slice (some ⟨W.heap.size,0,none⟩) n n) (List.replicate n Cell.zero).length ((List.replicate n Cell.zero).flatMap Cell.row):=by
 have:=Own.lit' (B:=B) (e:=28) (k:=5) W (zcells n) n hB (by simp [maxLen];omega) (by simp [zcells,rows_len (k:=5) Cell.row Cell.row_len])
 rw [List.length_replicate]
 exact this
def RetSl (e k : Nat) (w : World) (n : Nat) (xs : List Value) (en : Ending) (w' : World) : Prop := ∃ v,en = .returned v∧Own w' w.heap.size e k v n xs∧Ext w w'
set_option maxHeartbeats 400000 in
theorem clone_Cells {n : Nat} {xs : List Value} {v : Value} {w : World} (hl : Sl w 5 v n xs) (h1 : ∀ u ∈ xs,u.oneCell'=true) (hs : n≤1000000) : Calls Tryd.prog 47 #[v] w (RetSl 28 5 w n xs):=by
 obtain ⟨i,z,hi,hz,hi3,hz3,hby⟩:=Cell.infoE
 obtain ⟨a,cp,rfl,hlc,hcm,hn⟩:=hl.slice_form
 cases a with
 | none =>
  have hcp:=hn rfl
  subst hcp
  obtain rfl : n=0:=by omega
  obtain rfl:=hl.zero
  have hnil : ∀ w,(binOp .eql 24 (.slice none 0 0) (.slice none 0 0)).run Tryd.prog w = .ok (.bool true) w:=fun w=>Lib.run_eql_slice_nil w 24 28 none 0 0 0 0 Tryd.underlying24
  go_enter Tryd.func47,Tryd.ntmps47
  go_wp2
  go_ret
  exact ⟨_,rfl,Own.nil _ _ _ _,Ext.refl _⟩
 | some ad =>
  have hE:=(Ext.refl w).alloc (.cells #[] 28)
  have hl':=hl.ext hE
  have hO:=Own.made' w w.heap.size 28 5 (Nat.le_refl _)
  have hz:=Lib.hid hz
  have hi3:=Lib.hid hi3
  have hz3:=Lib.hid hz3
  have hby:=Lib.hid hby
  have hi:=Lib.hid hi
  have hnil : ∀ w,(binOp .eql 24 (.slice (some ad) n cp) (.slice none 0 0)).run Tryd.prog w = .ok (.bool false) w:=fun w=>Lib.run_eql_slice_nil w 24 28 (some ad) n cp 0 0 Tryd.underlying24
  go_enter Tryd.func47,Tryd.ntmps47
  go_wp2_with (at_builtin;refine Hid.out ?_)
  refine Hid.mk ?_
  refine wpList_append_any rfl _ _ 24 24 rfl rfl rfl Tryd.underlying24 Tryd.underlying24 hi.out hz.out hi3.out hz3.out hO hl' h1 (by simp [maxLen];omega) (by rw [hby.out];omega) hE.size ?_
  intro v' w' hO' hK _ _
  go_wp2
  go_ret
  simp only [Nat.zero_add,List.nil_append] at hO'
  exact ⟨_,rfl,hO',(Below.trans (Below.alloc (Below.refl _ w) (Nat.le_refl _) _) hK.below : Below w.heap.size w w')⟩
set_option maxHeartbeats 400000 in
theorem clone_Allocs {n : Nat} {xs : List Value} {v : Value} {w : World} (hl : Sl w 3 v n xs) (h1 : ∀ u ∈ xs,u.oneCell'=true) (hs : n≤1000000) : Calls Tryd.prog 46 #[v] w (RetSl 101 3 w n xs):=by
 obtain ⟨i,z,hi,hz,hi3,hz3,hby⟩:=Alloc.infoE
 obtain ⟨a,cp,rfl,hlc,hcm,hn⟩:=hl.slice_form
 cases a with
 | none =>
  have hcp:=hn rfl
  subst hcp
  obtain rfl : n=0:=by omega
  obtain rfl:=hl.zero
  have hnil : ∀ w,(binOp .eql 29 (.slice none 0 0) (.slice none 0 0)).run Tryd.prog w = .ok (.bool true) w:=fun w=>Lib.run_eql_slice_nil w 29 101 none 0 0 0 0 Tryd.underlying29
  go_enter Tryd.func46,Tryd.ntmps46
  go_wp2
  go_ret
  exact ⟨_,rfl,Own.nil _ _ _ _,Ext.refl _⟩
 | some ad =>
  have hE:=(Ext.refl w).alloc (.cells #[] 101)
  have hl':=hl.ext hE
  have hO:=Own.made' w w.heap.size 101 3 (Nat.le_refl _)
  have hz:=Lib.hid hz
  have hi3:=Lib.hid hi3
  have hz3:=Lib.hid hz3
  have hby:=Lib.hid hby
  have hi:=Lib.hid hi
  have hnil : ∀ w,(binOp .eql 29 (.slice (some ad) n cp) (.slice none 0 0)).run Tryd.prog w = .ok (.bool false) w:=fun w=>Lib.run_eql_slice_nil w 29 101 (some ad) n cp 0 0 Tryd.underlying29
  go_enter Tryd.func46,Tryd.ntmps46
  go_wp2_with (at_builtin;refine Hid.out ?_)
  refine Hid.mk ?_
  refine wpList_append_any rfl _ _ 29 29 rfl rfl rfl Tryd.underlying29 Tryd.underlying29 hi.out hz.out hi3.out hz3.out hO hl' h1 (by simp [maxLen];omega) (by rw [hby.out];omega) hE.size ?_
  intro v' w' hO' hK _ _
  go_wp2
  go_ret
  simp only [Nat.zero_add,List.nil_append] at hO'
  exact ⟨_,rfl,hO',(Below.trans (Below.alloc (Below.refl _ w) (Nat.le_refl _) _) hK.below : Below w.heap.size w w')⟩
end Go.Proofs.YtoanoodfacmieaaDoor

/- Contracts: clone of a memory. -/
namespace Go.Proofs.YtoanoodfacmieaaDoor
set_option maxRecDepth 100000
open Go.RowKit
def OwnC (w : World) (B : Nat) (s : Value) (a : Alloc) : Prop:=Own w B 28 5 s a.cells.length (a.cells.flatMap Cell.row)
theorem OwnC.read {w : World} {B : Nat} {s : Value} {a : Alloc} (h : OwnC w B s a) : Cls w s a.cells:=Own.sl h
theorem OwnC.keep {w w' : World} {S : Nat→Prop} {B : Nat} {s : Value} {a : Alloc} (h : OwnC w B s a) (hE : ExtBut S w w') (hS : ∀ g,s.ownBlock=some g → ¬ S g) : OwnC w' B s a:=ExtBut.own h hE hS
abbrev OM (w : World) (B : Nat) (v : Value) (vs : List Value) (l : List Alloc) : Prop:=OTb arow 101 3 OwnC w B v vs l
def RetMem (w : World) (l : List Alloc) (next : Int) (en : Ending) (w' : World) : Prop := ∃ v vs,en = .returned (.agg #[v,.int .i64 next])∧OM w' w.heap.size v vs l∧Ext w w'
theorem OM.read {w : World} {B : Nat} {v : Value} {vs : List Value} {l : List Alloc} (h : OM w B v vs l) : Als w v l:=⟨vs,h.inner.mono fun _ _ h=>OwnC.read h,h.outer.sl⟩
theorem OwnC.lt {w : World} {B : Nat} {s : Value} {a : Alloc} (h : OwnC w B s a) : ∀ g,s.ownBlock=some g→B≤g∧g < w.heap.size:=fun _ hg=>Own.lt h hg
theorem OwnC.mono {w : World} {B B' : Nat} {s : Value} {a : Alloc} (h : OwnC w B s a) (hB : B'≤B) : OwnC w B' s a:=Own.mono h hB
theorem OwnC.ext {w w' : World} {B : Nat} {s : Value} {a : Alloc} (h : OwnC w B s a) (hE : Ext w w') : OwnC w' B s a:=Own.ext h hE
theorem Cls.one' {w : World} {v : Value} {l : List Cell} (h : Cls w v l) : v.oneCell'=true:=by
 obtain ⟨a,cap,rfl,_⟩:=h.form
 rfl
theorem All2.oneCells {w : World} {vs : List Value} {l : List Alloc} (hin : All2 (fun s a=>Cls w s a.cells) vs l) : ∀ s ∈ vs,s.oneCell'=true:=fun s hs=>by
 obtain ⟨i,hi⟩:=List.mem_iff_getElem?.1 hs
 obtain ⟨x,_,hc⟩:=hin.get' hi
 exact hc.one'
section
variable {w w' wx : World} {B B' : Nat} {v v' s : Value} {vs : List Value} {l : List Alloc} {a : Alloc} {S : Nat→Prop}
theorem OM.inner_lt (h : OM w B v vs l) : ∀ s ∈ vs,∀ g,s.ownBlock=some g→B≤g∧g < w.heap.size:=OTb.inner_lt (RO:=OwnC) (fun h=>OwnC.lt h) h
theorem OM.but (h : OM w B v vs l) (hE : ExtBut S w w') (hv : ∀ g,v.ownBlock=some g → ¬ S g) (hs : ∀ s ∈ vs,∀ g,s.ownBlock=some g → ¬ S g) : OM w' B v vs l:=OTb.but (RO:=OwnC) (fun h=>OwnC.keep h) h hE hv hs
theorem OM.ext (h : OM w B v vs l) (hE : Ext w w') : OM w' B v vs l:=OTb.ext (RO:=OwnC) (fun h=>OwnC.keep h) h hE
theorem OM.mono (h : OM w B v vs l) (hB : B'≤B) : OM w B' v vs l:=OTb.mono (RO:=OwnC) (fun h=>OwnC.mono h) h hB
theorem OM.push (h : OM w B v vs l) (hE : Ext w wx) (hR : OwnC wx B s a) (hs : ∀ g,s.ownBlock=some g→w.heap.size≤g) (hO : Own w' B 101 3 v' (l.length+1) (trows arow vs l ++ arow s a)) (hK : Keeps wx w' B v)
  (hb : v'.ownBlock=v.ownBlock ∨ ∃ g,v'.ownBlock=some g∧wx.heap.size≤g) : OM w' B v' (vs ++ [s]) (l ++ [a]):=OTb.push (RO:=OwnC) (fun h=>OwnC.keep h) (fun h=>OwnC.lt h) h hE hR hs hO hK hb
end
theorem OM.cell {w : World} {B : Nat} {a : Option Addr} {n cap : Nat} {vs : List Value} {l : List Alloc} (h : OM w B (.slice a n cap) vs l) {i : Nat} {x : Alloc} (hx : l[i]? = some x) :
  ∃ g s,a=some ⟨g,0,none⟩∧B≤g∧g < w.heap.size∧vs[i]? = some s∧OwnC w B s x∧(w.cell? ⟨g,i * 3,none⟩=some (.int .i64 x.num)∧w.cell? ⟨g,i * 3+1,none⟩=some (.bool x.live)∧w.cell? ⟨g,i * 3+2,none⟩=some s)∧(∀ j,w.frozen? ⟨g,j,none⟩=false)∧(∀ b,s.ownBlock=some b→B≤b∧b < w.heap.size∧b≠g):=by
 have hi : i < l.length:=(List.getElem?_eq_some_iff.1 hx).1
 obtain ⟨s,hs,hc⟩:=h.inner.get hx
 obtain ⟨g,cp,e,hnc,hcm,hg1,hg2⟩:=h.outer.form (by omega)
 simp only [Value.slice.injEq] at e
 obtain ⟨rfl,rfl,rfl⟩:=e
 have t : ∀ j,j < 3→w.cell? ⟨g,i * 3+j,none⟩=(arow s x)[j]? := fun j hj=>(h.outer.cellAt (i * 3+j) (by omega)).trans (trows_get arow arow_len hs hx hj)
 exact ⟨g,s,rfl,hg1,hg2,hs,hc,⟨t 0 (by omega),t 1 (by omega),t 2 (by omega)⟩,fun j=>h.outer.frozen j,fun b e=>⟨(OwnC.lt hc b e).1,(OwnC.lt hc b e).2,fun e2=>h.far s (List.mem_of_getElem? hs) b e (by rw [e2];rfl)⟩⟩
def small (l : List Alloc) : Prop:=l.length≤1000000 ∧ ∀ a ∈ l,a.cells.length≤1000000
set_option maxHeartbeats 1600000 in
theorem allocs_clone {l : List Alloc} {next : Int} {s : Value} {w : World} (hl : Als w s l) (hs : small l) :
  Calls Tryd.prog 45 #[.agg #[s,.int .i64 next]] w (RetMem w l next):=by
 obtain ⟨vs0,hin,hout⟩:=hl
 have hE0:=((Ext.refl w).alloc (.cells #[s,.int .i64 next] 31)).alloc (.cells #[.slice none 0 0,.int .i64 0] 31)
 obtain ⟨a,cp,rfl,hlc,hcm,-⟩:=hout.slice_form
 unfold maxLen at hcm
 have h1 : ∀ u ∈ trows arow vs0 l,u.oneCell'=true:=arow_one vs0 l fun s hs=>by
  obtain ⟨i,hi⟩:=List.mem_iff_getElem?.1 hs
  obtain ⟨x,_,hc⟩:=hin.get' hi
  obtain ⟨a,cap,rfl,_⟩:=hc.form
  rfl
 have hC:=Lib.hid (clone_Allocs (hout.ext hE0) h1 hs.1)
 have bM:=Lib.hid ((Box.new w 31 #[.slice a l.length cp,.int .i64 next]).ext ((Ext.refl _).alloc (.cells #[.slice none 0 0,.int .i64 0] 31)))
 have bR:=Lib.hid (Box.new (w.alloc (.cells #[.slice a l.length cp,.int .i64 next] 31)) 31 #[.slice none 0 0,.int .i64 0])
 rw [World.size_alloc] at bR
 go_enter Tryd.func45,Tryd.ntmps45
 go_wp2_with fail
 refine hC.out.mono ?_
 rintro e w2 ⟨v,rfl,hO,hE2⟩
 replace bM:=bM.out.ext hE2
 replace bR:=bR.out.ext hE2
 have hE2':=hE0.trans hE2
 by_cases hz : l.length=0
 ·have hl0 : l=[]:=List.eq_nil_of_length_eq_zero hz
  subst hl0
  have hv0 : vs0=[]:=List.eq_nil_of_length_eq_zero (by simpa using hin.length)
  subst hv0
  have hg : ∀ g,v.ownBlock=some g→w.heap.size+2≤g:=fun g e=>by have:=(hO.lt e).1;simpa using this
  obtain ⟨a2,cp2,rfl,hlc2,hcm2,-⟩:=hO.sl.slice_form
  have c0 : w2.cell? ⟨w.heap.size,0,none⟩=some (.slice a 0 cp):=bM.cell 0
  have f0:=bM.frozen 0
  have c1 : w2.cell? ⟨w.heap.size,1,none⟩=some (.int .i64 next):=bM.cell 1
  have r0 : w2.cell? ⟨w.heap.size+1,0,none⟩=some (.slice none 0 0):=bR.cell 0
  have r1 : w2.cell? ⟨w.heap.size+1,1,none⟩=some (.int .i64 0):=bR.cell 1
  have rf0:=bR.frozen 0
  have rf1:=bR.frozen 1
  have hO2:=Lib.hid hO
  have hg2:=Lib.hid hg
  clear hO hg
  go_wp2
  go_loopw [11] (fun iv wr=>iv = .int .i64 0∧wr=w2.setCell ⟨w.heap.size,0,none⟩ (.slice a2 0 cp2)) (fun _ _=>0)
  case atStart=>exact ⟨rfl,rfl⟩
  case round =>
   obtain ⟨rfl,rfl⟩:=hrel
   go_wp2
   have hX:=((ExtBut.setCell w2 ⟨w.heap.size,0,none⟩ (.slice a2 0 cp2)).mono (S':=fun b=>b < w.heap.size+2∧w.heap.size≤b) (fun x _ h=>by simp at h;omega)).trans (((ExtBut.setCell (w2.setCell ⟨w.heap.size,0,none⟩ (.slice a2 0 cp2)) ⟨w.heap.size+1,0,none⟩ (.slice a2 0 cp2)).mono (S':=fun b=>b < w.heap.size+2∧w.heap.size≤b) (fun x _ h=>by simp at h;omega)).trans ((ExtBut.setCell _ ⟨w.heap.size+1,1,none⟩ (.int .i64 next)).mono (S':=fun b=>b < w.heap.size+2∧w.heap.size≤b) (fun x _ h=>by simp at h;omega)))
   refine bodyPost_ret (v := .agg #[.slice a2 0 cp2,.int .i64 next]) (by simp [results,Tryd.f45,go_sem,r0,r1]) rfl ⟨_,[],rfl,⟨?_,trivial,fun i j a b _ h=>by simp at h,fun s h=>by cases h⟩,ExtBut.ext hE2' hX (fun x h=>h.2)⟩
   exact ExtBut.own (hO2.out.mono (by simp;omega)) hX (fun g e h=>by have:=hg2.out g e;omega)
 ·obtain ⟨g,cp2,rfl,hlc2,hcm2,hg1,hg2⟩:=hO.form (by omega)
  unfold maxLen at hcm2
  simp only [World.size_alloc] at hg1
  have c0:=bM.cell 0
  have f0:=bM.frozen 0
  have hlen0 : vs0.length=l.length:=hin.length
  have hO1:=ExtBut.own (hO.mono (B':=w.heap.size) (by simp;omega)) (ExtBut.setCell w2 ⟨w.heap.size,0,none⟩ (.slice (some ⟨g,0,none⟩) l.length cp2)) (fun g' e h=>by simp [Value.ownBlock] at e;simp at h;omega)
  have hE1:=ExtBut.ext hE2' (ExtBut.setCell w2 ⟨w.heap.size,0,none⟩ (.slice (some ⟨g,0,none⟩) l.length cp2)) (fun x h=>by simp at h;omega)
  have bM1:=bM.set 0 (.slice (some ⟨g,0,none⟩) l.length cp2)
  have bR1:=bR.other (p:=⟨w.heap.size,0,none⟩) (by simp) (.slice (some ⟨g,0,none⟩) l.length cp2)
  have hHid:=Lib.hid (And.intro hlen0 (And.intro hO1 (And.intro hE1 (And.intro bM1 bR1))))
  clear hlen0 hO1 hE1 bM1 bR1 hO
  go_wp2
  obtain ⟨hlen0,hO1,hE1,bM1,bR1⟩:=hHid.out
  clear hHid
  obtain ⟨w1,hw1⟩ : ∃ w1,w2.setCell ⟨w.heap.size,0,none⟩ (.slice (some ⟨g,0,none⟩) l.length cp2)=w1:=⟨_,rfl⟩
  have hsz : w1.heap.size=w2.heap.size:=by rw [← hw1];simp
  rw [hw1] at hO1 hE1 bM1 bR1 ⊢
  clear hw1
  have hI0:=CInv.start (RO:=OwnC) hlen0 hO1 hE1
  have hgl:=(hO1.lt rfl).2
  have hH:=Lib.hid (And.intro hlen0 (And.intro hI0 (And.intro bM1 bR1)))
  clear hlen0 hO1 hI0 bM1 bR1 c0 f0 bM bR hsz
  go_loopw [11] (fun iv wr => ∃ k : Nat,k≤l.length∧iv = .int .i64 k∧CInv arow 101 3 OwnC w w1 wr g cp2 vs0 l k) (fun iv _=>l.length - (intOf iv).toNat)
  case atStart=>exact ⟨0,Nat.zero_le _,rfl,hH.out.2.1⟩
  case round =>
   obtain ⟨k,hk,rfl,hI⟩:=hrel
   have bM:=hH.out.2.2.1.but hI.keep (by intro h;omega)
   have bR:=hH.out.2.2.2.but hI.keep (by intro h;omega)
   have c0 : wr.cell? ⟨w.heap.size,0,none⟩=some (.slice (some ⟨g,0,none⟩) l.length cp2):=bM.cell 0
   by_cases hlt : k < l.length
   ·obtain ⟨x,hx⟩ : ∃ x,l[k]? = some x:=⟨l[k],by simp [hlt]⟩
    obtain ⟨sv,hsv⟩ : ∃ sv,vs0[k]? = some sv:=by have:=hH.out.1;exact ⟨vs0[k],by simp⟩
    obtain ⟨vs,hvl,hOw,hin1,hap,hold⟩:=hI.vs
    have hvk:=(hold k (Nat.le_refl _)).trans hsv
    have d2 : wr.cell? ⟨g,k * 3+2,none⟩=some sv:=(hOw.cellAt (k * 3+2) (by omega)).trans ((trows_get arow arow_len hvk hx (by omega : 2 < 3)).trans rfl)
    have fr:=hOw.frozen (k * 3+2)
    have hcl : Cls wr sv x.cells:=((All2.iff.1 hin).2 k sv x hsv hx).ext hI.ext
    have hi0 : (0 : Int)≤(k : Int):=by omega
    have hi1 : (k : Int) < (l.length : Int):=by omega
    have hCl:=Lib.hid (fun (w' : World) (h : Ext wr w')=>clone_Cells (hcl.ext h) (Cell.one x.cells) (hs.2 x (List.mem_of_getElem? hx)))
    have hOw':=Lib.hid hOw
    have hHH:=Lib.hid (And.intro hI (And.intro hx (And.intro hsv hin)))
    clear hvl hin1 hOw hap hold hvk hcl hI hx hsv hin hs hout h1
    go_wp2
    go_region_with (first | (go_at_call 47;refine (hCl.out _ ?_).mono ?_;(exact (Ext.refl _).drew);rintro e w4 ⟨sn,rfl,hOn,hEn⟩;obtain ⟨an,cn,rfl,-⟩:=hOn.sl.slice_form;have hO4:=hOw'.out.ext ((Ext.refl wr).drew.trans hEn);have c4:=hEn.cell (show wr.drew.cell? ⟨w.heap.size,0,none⟩=some (.slice (some ⟨g,0,none⟩) l.length cp2) by simpa using c0);have d4:=hEn.cell (show wr.drew.cell? ⟨g,k * 3+2,none⟩=some sv by simpa using d2);have f4:=hO4.frozen (k * 3+2)))
    all_goals
     have hEw : Ext wr w4:=(Ext.refl wr).drew.trans hEn
     have hge : w.heap.size≤wr.heap.size:=hHH.out.1.ext.size
     have hst:=Lib.hid (CInv.step (RO:=OwnC) (j:=2) arow_len OwnC.keep hHH.out.1 hHH.out.2.1 hHH.out.2.2.1 (by omega) rfl hEw (Own.mono hOn (by simpa using hge)) (fun b e=>by have:=hOn.lt e;simpa using this))
     clear hO4 hOn
     go_wp2
     go_roundw
     case rel=>exact ⟨k+1,by omega,by go_num,hst.out⟩
     case measure=>simp [intOf];omega
   ·have hkl : k=l.length:=by omega
    subst hkl
    have c1 : wr.cell? ⟨w.heap.size,1,none⟩=some (.int .i64 next):=bM.cell 1
    have r0 : wr.cell? ⟨w.heap.size+1,0,none⟩=some (.slice none 0 0):=bR.cell 0
    have r1 : wr.cell? ⟨w.heap.size+1,1,none⟩=some (.int .i64 0):=bR.cell 1
    have rf0:=bR.frozen 0
    have rf1:=bR.frozen 1
    have hF:=Lib.hid (And.intro hI.finish hI.keep.size)
    clear hI
    go_wp2
    obtain ⟨⟨vs,hT,hE,hfar⟩,hsz⟩:=hF.out
    have hsz1:=bR.lt
    have hX:=((ExtBut.setCell wr ⟨w.heap.size+1,0,none⟩ (.slice (some ⟨g,0,none⟩) l.length cp2)).mono (S':=fun b=>b=w.heap.size+1) (fun x _ h=>h)).trans ((ExtBut.setCell _ ⟨w.heap.size+1,1,none⟩ (.int .i64 next)).mono (S':=fun b=>b=w.heap.size+1) (fun x _ h=>h))
    refine bodyPost_ret (v := .agg #[.slice (some ⟨g,0,none⟩) l.length cp2,.int .i64 next]) (by simp [results,Tryd.f45,go_sem,r0,r1]) rfl ⟨_,vs,rfl,hT.but OwnC.keep hX (fun g' e h=>by simp [Value.ownBlock] at e;omega) (fun s hs b e h=>by have:=hfar s hs b e;have:=hH.out.2.2.2.lt;omega),ExtBut.ext hE hX (fun x h=>by omega)⟩
end Go.Proofs.YtoanoodfacmieaaDoor

/- Contracts: Twin of the reference of layer 26. -/
namespace Go.Proofs.YtoanoodfacmieaaDoor
set_option maxRecDepth 100000
open Go.RowKit
end Go.Proofs.YtoanoodfacmieaaDoor

/- Contracts: Add of the program and of the reference. -/
namespace Go.Proofs.YtoanoodfacmieaaDoor
set_option maxRecDepth 100000
open Go.RowKit
def FrM (w w' : World) (v : Value) (m : Mem) : Prop := ∀ w'' : World,ExtBut (fun b=>b < w.heap.size) w' w''→RdM w'' v m
theorem FrM.read {w w' : World} {v : Value} {m : Mem} (h : FrM w w' v m) : RdM w' v m:=h w' (ExtBut.refl _ _)
theorem FrM.ext {w w' w2 : World} {v : Value} {m : Mem} (h : FrM w w' v m) (hE : Ext w' w2) : FrM w w2 v m:=fun w'' h2=>h w'' ((ExtBut.of_ext hE).trans h2)
theorem FrM.but {w w' w2 : World} {v : Value} {m : Mem} {S : Nat→Prop} (h : FrM w w' v m) (hE : ExtBut S w' w2) (hS : ∀ b,S b→b < w.heap.size) : FrM w w2 v m:=fun w'' h2=>h w'' ((hE.mono fun b _ hb=>hS b hb).trans h2)
theorem FrM.mono {w0 w w' : World} {v : Value} {m : Mem} (h : FrM w w' v m) (hw : w0.heap.size≤w.heap.size) : FrM w0 w' v m:=fun w'' h2=>h w'' (h2.mono fun _ _ hb=>Nat.lt_of_lt_of_le hb hw)
theorem FrM.zero (w w' : World) : FrM w w' (.agg #[.slice none 0 0,.int .i64 0]) Mem.zero:=fun w'' _=>RdM.zero w''
theorem FrM.of_OM {w w' : World} {B : Nat} {v : Value} {vs : List Value} {l : List Alloc} {next : Int} (h : OM w' B v vs l) (hB : w.heap.size≤B) : FrM w w' (.agg #[v,.int .i64 next]) ⟨l,next⟩:=fun w'' h2 =>
 ⟨_,rfl,OM.read (OM.but h h2 (fun g e hl=>by have:=(h.outer.lt e).1;omega) (fun s hs g e hl=>by have:=(OM.inner_lt h s hs g e).1;omega))⟩
def RetMN (w : World) (m : Mem) (n err : Int) (en : Ending) (w' : World) : Prop := ∃ v,en = .returned (.tuple #[v,.int .i64 n,.int .i64 err])∧FrM w w' v m∧Ext w w'
def RetME (w : World) (m : Mem) (err : Int) (en : Ending) (w' : World) : Prop := ∃ v,en = .returned (.tuple #[v,.int .i64 err])∧FrM w w' v m∧Ext w w'
theorem small_of_ok {m : Mem} (h : m.ok=true) : small m.al:=by
 unfold Mem.ok okM at h
 simp only [Bool.and_eq_true,decide_eq_true_eq] at h
 refine ⟨by omega,?_⟩
 have hgo : ∀ (l : List Alloc) (least : Int),okAl m.next least l=true → ∀ a ∈ l,a.cells.length≤1000000:=by
  intro l
  induction l with
  | nil=>intro _ _ a ha;cases ha
  | cons x l ih =>
   intro least h a ha
   simp only [okAl,Bool.and_eq_true,decide_eq_true_eq] at h
   rcases List.mem_cons.1 ha with rfl | ha
   ·omega
   ·exact ih _ h.2 a ha
 exact hgo m.al 0 h.2
theorem ok_bounds {m : Mem} (h : m.ok=true) : m.al.length≤400∧0≤m.next∧m.next≤1000000:=by
 unfold Mem.ok okM inB at h
 simp only [Bool.and_eq_true,decide_eq_true_eq] at h
 omega
theorem addR_bad {m : Mem} {size : Int} (h : m.ok=false) : addR m size=(Mem.zero,0,8):=by simp [addR,h]
theorem addR_arg {m : Mem} {size : Int} (h : m.ok=true) (hs : size < 1∨2 < size) : addR m size=(Mem.zero,0,2):=by simp [addR,h,hs]
theorem addR_full {m : Mem} {size : Int} (h : m.ok=true) (hs : ¬ (size < 1∨2 < size)) (hf : m.al.length=400∨m.next=1000000) : addR m size=(Mem.zero,0,18):=by simp [addR,h,hs,hf]
theorem addR_yes {m : Mem} {size : Int} (h : m.ok=true) (hs : ¬ (size < 1∨2 < size)) (hf : ¬ (m.al.length=400∨m.next=1000000)) : addR m size=(⟨m.al ++ [newAlloc m.next size.toNat],m.next+1⟩,m.next,0):=by simp [addR,h,hs,hf]
set_option maxHeartbeats 1600000 in
theorem allocs_Add {m : Mem} {s : Value} {w : World} (size : Int) (hl : Als w s m.al) (hn : i64B m.next) :
  Calls Tryd.prog 19 #[.agg #[s,.int .i64 m.next],.int .i64 size] w (RetMN w (addR m size).1 (addR m size).2.1 (addR m size).2.2):=by
 have hE0:=((Ext.refl w).alloc (.cells #[s,.int .i64 m.next] 31)).alloc (.cells #[.slice none 0 0,.int .i64 0] 31)
 obtain ⟨a,cp,rfl,hlc,hcm,-⟩:=hl.form
 have bM:=(Box.new w 31 #[.slice a m.al.length cp,.int .i64 m.next]).ext ((Ext.refl _).alloc (.cells #[.slice none 0 0,.int .i64 0] 31))
 have bR:=Box.new (w.alloc (.cells #[.slice a m.al.length cp,.int .i64 m.next] 31)) 31 #[.slice none 0 0,.int .i64 0]
 rw [World.size_alloc] at bR
 have hCk:=Lib.hid (allocs_Check (hl.ext hE0) hn)
 have hL:=Lib.hid hl
 cases hok : m.ok
 ·have hce : Hid (memErr m.al m.next=8):=Hid.mk (memErr_bad hok)
  have hres:=Lib.hid (addR_bad (size:=size) hok)
  clear hok hl
  go_enter Tryd.func19,Tryd.ntmps19
  go_wp2_with fail
  refine hCk.out.mono ?_
  rintro e w1 ⟨rfl,hE1⟩
  rw [hce.out]
  have bR1:=bR.ext hE1
  have r0 : w1.cell? ⟨w.heap.size+1,0,none⟩=some (.slice none 0 0):=bR1.cell 0
  have r1 : w1.cell? ⟨w.heap.size+1,1,none⟩=some (.int .i64 0):=bR1.cell 1
  have rf0:=bR1.frozen 0
  have rf1:=bR1.frozen 1
  have hF1:=hE0.trans hE1
  clear bM bR bR1
  go_wp2
  rw [hres.out]
  refine bodyPost_ret (v := .tuple #[.agg #[.slice none 0 0,.int .i64 0],.int .i64 0,.int .i64 8]) (by simp [results,Tryd.f19,go_sem,r0,r1]) rfl ⟨_,rfl,FrM.zero _ _,(hF1.setCell (by simp) _).setCell (by simp) _⟩
 ·have hce : Hid (memErr m.al m.next=0):=Hid.mk (memErr_ok hok)
  have hsm:=small_of_ok hok
  obtain ⟨hb1,hb2,hb3⟩:=ok_bounds hok
  by_cases hs : size < 1∨2 < size
  ·have hres:=Lib.hid (addR_arg hok hs)
   clear hok hl
   rcases hs with hs | hs
   ·have q1 : decide (size < 1)=true:=decide_eq_true hs
    go_enter Tryd.func19,Tryd.ntmps19
    go_wp2_with fail
    refine hCk.out.mono ?_
    rintro e w1 ⟨rfl,hE1⟩
    rw [hce.out]
    have bR1:=bR.ext hE1
    have r0 : w1.cell? ⟨w.heap.size+1,0,none⟩=some (.slice none 0 0):=bR1.cell 0
    have r1 : w1.cell? ⟨w.heap.size+1,1,none⟩=some (.int .i64 0):=bR1.cell 1
    have rf0:=bR1.frozen 0
    have rf1:=bR1.frozen 1
    have hF1:=hE0.trans hE1
    clear bM bR bR1
    go_wp2
    rw [hres.out]
    refine bodyPost_ret (v := .tuple #[.agg #[.slice none 0 0,.int .i64 0],.int .i64 0,.int .i64 2]) (by simp [results,Tryd.f19,go_sem,r0,r1]) rfl ⟨_,rfl,FrM.zero _ _,(hF1.setCell (by simp) _).setCell (by simp) _⟩
   ·have q1 : decide (size < 1)=false:=decide_eq_false (by omega)
    have q2 : decide (2 < size)=true:=decide_eq_true hs
    go_enter Tryd.func19,Tryd.ntmps19
    go_wp2_with fail
    refine hCk.out.mono ?_
    rintro e w1 ⟨rfl,hE1⟩
    rw [hce.out]
    have bR1:=bR.ext hE1
    have r0 : w1.cell? ⟨w.heap.size+1,0,none⟩=some (.slice none 0 0):=bR1.cell 0
    have r1 : w1.cell? ⟨w.heap.size+1,1,none⟩=some (.int .i64 0):=bR1.cell 1
    have rf0:=bR1.frozen 0
    have rf1:=bR1.frozen 1
    have hF1:=hE0.trans hE1
    clear bM bR bR1
    go_wp2
    rw [hres.out]
    refine bodyPost_ret (v := .tuple #[.agg #[.slice none 0 0,.int .i64 0],.int .i64 0,.int .i64 2]) (by simp [results,Tryd.f19,go_sem,r0,r1]) rfl ⟨_,rfl,FrM.zero _ _,(hF1.setCell (by simp) _).setCell (by simp) _⟩
  ·have q1 : decide (size < 1)=false:=decide_eq_false (by omega)
   have q2 : decide (2 < size)=false:=decide_eq_false (by omega)
   by_cases hf : m.al.length=400∨m.next=1000000
   ·have hres:=Lib.hid (addR_full hok hs hf)
    clear hok hl
    have q3 : ((m.al.length : Int) == 400)=true∨((m.al.length : Int) == 400)=false∧(m.next == 1000000)=true:=by
     rcases hf with h | h
     ·exact .inl (beq_iff_eq.2 (by omega))
     ·by_cases h4 : m.al.length=400
      ·exact .inl (beq_iff_eq.2 (by omega))
      ·exact .inr ⟨beq_eq_false_iff_ne.2 (by omega),beq_iff_eq.2 h⟩
    clear hf hs
    rcases q3 with q3 | ⟨q3,q4⟩
    all_goals
     go_enter Tryd.func19,Tryd.ntmps19
     go_wp2_with fail
     refine hCk.out.mono ?_
     rintro e w1 ⟨rfl,hE1⟩
     rw [hce.out]
     have bR1:=bR.ext hE1
     have bM1:=bM.ext hE1
     have m0 : w1.cell? ⟨w.heap.size,0,none⟩=some (.slice a m.al.length cp):=bM1.cell 0
     have m1 : w1.cell? ⟨w.heap.size,1,none⟩=some (.int .i64 m.next):=bM1.cell 1
     have r0 : w1.cell? ⟨w.heap.size+1,0,none⟩=some (.slice none 0 0):=bR1.cell 0
     have r1 : w1.cell? ⟨w.heap.size+1,1,none⟩=some (.int .i64 0):=bR1.cell 1
     have rf0:=bR1.frozen 0
     have rf1:=bR1.frozen 1
     have hF1:=hE0.trans hE1
     clear bM bR bR1 bM1
     go_wp2
     rw [hres.out]
     refine bodyPost_ret (v := .tuple #[.agg #[.slice none 0 0,.int .i64 0],.int .i64 0,.int .i64 18]) (by simp [results,Tryd.f19,go_sem,r0,r1]) rfl ⟨_,rfl,FrM.zero _ _,(hF1.setCell (by simp) _).setCell (by simp) _⟩
   ·have hres:=Lib.hid (addR_yes hok hs hf)
    have q3 : ((m.al.length : Int) == 400)=false:=beq_eq_false_iff_ne.2 (by omega)
    have q4 : (m.next == 1000000)=false:=beq_eq_false_iff_ne.2 (by omega)
    have hl4 : m.al.length≤1000000:=by omega
    obtain ⟨n,rfl⟩ : ∃ n : Nat,size=(n : Int):=⟨size.toNat,by omega⟩
    have hn12 : 1≤n∧n≤2:=by omega
    have hmk:=make_Cells n (by omega)
    obtain ⟨ai,az,hai,haz,hai3,haz3,haby⟩:=Alloc.infoE
    have hai':=Lib.hid hai;have haz':=Lib.hid haz;have hai3':=Lib.hid hai3;have haz3':=Lib.hid haz3;have haby':=Lib.hid haby
    clear hok hl hf hs hai haz hai3 haz3 haby
    ·skip
     go_enter Tryd.func19,Tryd.ntmps19
     go_wp2_with fail
     refine hCk.out.mono ?_
     rintro e w1 ⟨rfl,hE1⟩
     rw [hce.out]
     have bR1:=bR.ext hE1
     have bM1:=bM.ext hE1
     have m0 : w1.cell? ⟨w.heap.size,0,none⟩=some (.slice a m.al.length cp):=bM1.cell 0
     have m1 : w1.cell? ⟨w.heap.size,1,none⟩=some (.int .i64 m.next):=bM1.cell 1
     have hF1:=hE0.trans hE1
     go_wp2_with fail
     refine (allocs_clone (hL.out.ext hF1) hsm).mono ?_
     rintro e w2 ⟨v,vs,rfl,hOM,hE2⟩
     have hF2:=hF1.trans hE2
     have hO:=hOM.outer
     have hvB:=fun g e=>(hO.lt (g:=g) e)
     obtain ⟨a2,cp2,rfl,hlc2,hcm2,-⟩:=hO.sl.slice_form
     unfold maxLen at hcm2
     have bR2:=bR1.ext hE2
     have bM2:=bM1.ext hE2
     have mf0:=bM2.frozen 0
     have mf1:=bM2.frozen 1
     have m0' : w2.cell? ⟨w.heap.size,0,none⟩=some (.slice a m.al.length cp):=bM2.cell 0
     have m1' : w2.cell? ⟨w.heap.size,1,none⟩=some (.int .i64 m.next):=bM2.cell 1
     clear m0 m1
     go_wp2
     have hK3 : ExtBut (fun b=>b=w.heap.size) w2 ((w2.setCell ⟨w.heap.size,0,none⟩ (.slice a2 m.al.length cp2)).setCell ⟨w.heap.size,1,none⟩ (.int .i64 m.next)):=(ExtBut.setCell w2 ⟨w.heap.size,0,none⟩ (.slice a2 m.al.length cp2)).trans (ExtBut.setCell _ ⟨w.heap.size,1,none⟩ (.int .i64 m.next))
     have hw1 : w.heap.size+1 < w1.heap.size:=bR1.lt
     have bM3:=(bM2.set 0 (.slice a2 m.al.length cp2)).set 1 (.int .i64 m.next)
     have bR3:=bR2.but hK3 (by omega)
     have hF3:=ExtBut.ext hF2 hK3 (fun x h=>by omega)
     have hOM3:=hOM.but hK3 (fun g e h=>by have:=(hvB g e).1;omega) (fun s hs g e h=>by have:=(hOM.inner_lt s hs g e).1;omega)
     obtain ⟨w3,hw3⟩ : ∃ w3,(w2.setCell ⟨w.heap.size,0,none⟩ (.slice a2 m.al.length cp2)).setCell ⟨w.heap.size,1,none⟩ (.int .i64 m.next)=w3:=⟨_,rfl⟩
     have hs3 : w2.heap.size≤w3.heap.size:=by rw [← hw3];simp
     have hs13 : w1.heap.size≤w3.heap.size:=Nat.le_trans hE2.size hs3
     rw [hw3] at bM3 bR3 hF3 hOM3 ⊢
     have n0 : w3.cell? ⟨w.heap.size,0,none⟩=some (.slice a2 m.al.length cp2):=bM3.cell 0
     have n1 : w3.cell? ⟨w.heap.size,1,none⟩=some (.int .i64 m.next):=bM3.cell 1
     have nf0:=bM3.frozen 0
     have nf1:=bM3.frozen 1
     have hH:=Lib.hid (And.intro bM3 (And.intro bR3 (And.intro hF3 (And.intro hOM3 (And.intro hvB hw1)))))
     have hlt3 : w.heap.size < w3.heap.size:=bM3.lt
     clear hw3 hK3 bM bR bR1 bM1 bR2 bM2 bM3 bR3 hOM hO hF2 hF1 hvB mf0 mf1 m0' m1' hF3 hOM3 hE2 hE1
     have hzo : ∀ w' : World,Ext w3 w'→Sl ((w'.alloc (.cells (zcells n) 28)).alloc (.cells #[.int .i64 m.next,.bool true,.slice (some ⟨w'.heap.size,0,none⟩) n n] 101)) 3 (.slice (some ⟨w'.heap.size+1,0,none⟩) 1 1) 1 (arow (.slice (some ⟨w'.heap.size,0,none⟩) n n) (newAlloc m.next n)):=fun w' _=>by
      have:=(Own.lit' (B:=0) (e:=101) (k:=3) (w'.alloc (.cells (zcells n) 28)) #[.int .i64 m.next,.bool true,.slice (some ⟨w'.heap.size,0,none⟩) n n] 1 (Nat.zero_le _) (by simp [maxLen]) rfl).sl
      rw [World.size_alloc] at this
      exact this
     have hzo:=Lib.hid hzo
     go_region_law (first | (rw [if_pos (by rfl)];refine wp_append_any (.tmp 37) (.tmp 42) 29 29 rfl rfl rfl (B:=w1.heap.size) (e:=101) (n:=m.al.length) (m:=1) (xs:=trows arow vs m.al) (ys:=arow (.slice (some ⟨w3.heap.size,0,none⟩) n n) (newAlloc m.next n)) Tryd.underlying29 Tryd.underlying29 hai'.out haz'.out hai3'.out haz3'.out (hH.out.2.2.2.1.outer.ext (((Ext.refl _).alloc _).alloc _).drew) ?_ ?_ ?_ ?_ ?_ ?_;(exact Sl.ext (hzo.out _ (Ext.refl _)) (Ext.refl _).drew);(simp [arow,Value.oneCell']);(simp [maxLen];omega);(rw [haby'.out];omega);(simp;omega);intro v' w' hO' hK' hb' _;obtain ⟨a3,cp3,rfl,-⟩:=hO'.sl.slice_form;have bM':=(hH.out.1.ext (((Ext.refl _).alloc _).alloc _).drew).but (ExtBut.of_keeps hK') (fun h=>by have:=(hH.out.2.2.2.2.1 _ h).1;have:=hH.out.2.2.2.2.2;omega);have k0 : w'.cell? ⟨w.heap.size,0,none⟩=some (.slice a2 m.al.length cp2):=bM'.cell 0;have kf:=bM'.frozen 0))
     all_goals
      have hEx:=((((Ext.refl w3).alloc (.cells (zcells n) 28)).alloc (.cells #[.int .i64 m.next,.bool true,.slice (some ⟨w3.heap.size,0,none⟩) n n] 101)).drew)
      have hzc : OwnC (((w3.alloc (.cells (zcells n) 28)).alloc (.cells #[.int .i64 m.next,.bool true,.slice (some ⟨w3.heap.size,0,none⟩) n n] 101)).drew) w1.heap.size (.slice (some ⟨w3.heap.size,0,none⟩) n n) (newAlloc m.next n):=Own.ext (zcells_own n (by omega) w3 hs13) (((Ext.refl _).alloc _).drew)
      have hP:=OM.push hH.out.2.2.2.1 hEx hzc (fun g e=>by have h' : some w3.heap.size=some g:=e;cases h';exact Nat.le_refl _) hO' hK' hb'
      have hF4:=Ext.trans hH.out.2.2.1 hEx
      have hS4:=ExtBut.of_keeps hK'
      have hvB:=hH.out.2.2.2.2.1
      have hin:=OM.inner_lt hP
      have hvB':=fun g e=>(hO'.lt (g:=g) e).1
      have hF5:=ExtBut.ext hF4 hS4 (fun x h=>by have:=(hvB _ h).1;omega)
      have bR5:=(hH.out.2.1.ext hEx).but hS4 (fun h=>by have:=(hvB _ h).1;omega)
      have bM6:=bM'.set 0 (.slice a3 (m.al.length+1) cp3)
      have hX6 : ExtBut (fun b=>b=w.heap.size∨b=w.heap.size+1) w' (w'.setCell ⟨w.heap.size,0,none⟩ (.slice a3 (m.al.length+1) cp3)):=(ExtBut.setCell w' ⟨w.heap.size,0,none⟩ (.slice a3 (m.al.length+1) cp3)).mono (fun x _ h => .inl h)
      have bR6:=bR5.other (p:=⟨w.heap.size,0,none⟩) (by simp) (.slice a3 (m.al.length+1) cp3)
      clear bM' k0 kf bR5 hEx hzc hK' hb' hO' hF4 hS4
      obtain ⟨w6,hw6⟩ : ∃ w6,w'.setCell ⟨w.heap.size,0,none⟩ (.slice a3 (m.al.length+1) cp3)=w6:=⟨_,rfl⟩
      rw [hw6] at bM6 bR6 hX6 ⊢
      clear hw6
      have e0 : w6.cell? ⟨w.heap.size,0,none⟩=some (.slice a3 (m.al.length+1) cp3):=bM6.cell 0
      have e1 : w6.cell? ⟨w.heap.size,1,none⟩=some (.int .i64 m.next):=bM6.cell 1
      have ef1:=bM6.frozen 1
      have r0 : w6.cell? ⟨w.heap.size+1,0,none⟩=some (.slice none 0 0):=bR6.cell 0
      have r1 : w6.cell? ⟨w.heap.size+1,1,none⟩=some (.int .i64 0):=bR6.cell 1
      have rf0:=bR6.frozen 0
      have rf1:=bR6.frozen 1
      have hlt6:=bM6.lt
      have hA:=Lib.hid (And.intro hP (And.intro hF5 (And.intro hX6 (And.intro hin hvB'))))
      clear hP hF5 hX6 hin hvB' bM6 bR6 hvB
      go_wp2
      rw [hres.out,Int.toNat_natCast]
      obtain ⟨hP,hF5,hX6,hin,hvB'⟩:=hA.out
      have hX7:=((hX6.trans ((ExtBut.setCell w6 ⟨w.heap.size,1,none⟩ (.int .i64 (m.next+1))).mono (S':=fun b=>b=w.heap.size∨b=w.heap.size+1) (fun x _ h => .inl h))).trans ((ExtBut.setCell _ ⟨w.heap.size+1,0,none⟩ (.slice a3 (m.al.length+1) cp3)).mono (S':=fun b=>b=w.heap.size∨b=w.heap.size+1) (fun x _ h => .inr h))).trans ((ExtBut.setCell _ ⟨w.heap.size+1,1,none⟩ (.int .i64 (m.next+1))).mono (S':=fun b=>b=w.heap.size∨b=w.heap.size+1) (fun x _ h => .inr h))
      refine bodyPost_ret (v := .tuple #[.agg #[.slice a3 (m.al.length+1) cp3,.int .i64 (m.next+1)],.int .i64 m.next,.int .i64 0]) (by simp [results,Tryd.f19,go_sem,r0,r1]) rfl ⟨_,rfl,FrM.of_OM (OM.but hP hX7 (fun g e h=>by have:=hvB' g e;omega) (fun s hs g e h=>by have:=(hin s hs g e).1;omega)) (by omega),ExtBut.ext hF5 hX7 (fun x h=>by omega)⟩
end Go.Proofs.YtoanoodfacmieaaDoor

/- Monitors aas Lean data, and what a value in memory reads aas; what Check gives; no program in sight. (printed by gen/mon35.py) -/
namespace Go.Proofs.YtoanoodfacmieaaDoor
set_option maxRecDepth 100000
open Go.RowKit
structure Mon where
 mem : Mem
 stks : List Stk
 run : List Int
 tag : Int
 call : Int
 deriving DecidableEq
def Mon.zero : Mon:=⟨Mem.zero,[],[],0,0⟩
def RdMon (w : World) (v : Value) (m : Mon) : Prop := ∃ sa ss sr,v = .agg #[sa,.int .i64 m.mem.next,ss,sr,.int .i64 m.tag,.int .i64 m.call]∧Als w sa m.mem.al∧Kts w ss m.stks∧Nts w sr m.run
theorem RdMon.ext {w w' : World} {v : Value} {m : Mon} (h : RdMon w v m) (he : Ext w w') : RdMon w' v m:=by
 obtain ⟨sa,ss,sr,rfl,h1,h2,h3⟩:=h
 exact ⟨sa,ss,sr,rfl,h1.ext he,h2.ext he,h3.ext he⟩
def FrMon (w w' : World) (v : Value) (m : Mon) : Prop := ∀ w'' : World,ExtBut (fun b=>b < w.heap.size) w' w''→RdMon w'' v m
theorem FrMon.read {w w' : World} {v : Value} {m : Mon} (h : FrMon w w' v m) : RdMon w' v m:=h w' (ExtBut.refl _ _)
theorem FrMon.ext {w w' w2 : World} {v : Value} {m : Mon} (h : FrMon w w' v m) (hE : Ext w' w2) : FrMon w w2 v m:=fun w'' h2=>h w'' ((ExtBut.of_ext hE).trans h2)
theorem FrMon.mono {w0 w w' : World} {v : Value} {m : Mon} (h : FrMon w w' v m) (hw : w0.heap.size≤w.heap.size) : FrMon w0 w' v m:=fun w'' h2=>h w'' (h2.mono fun _ _ hb=>Nat.lt_of_lt_of_le hb hw)
theorem okK_bounds {x : Stk} (h : okK x=true) : x.cells.length≤2 ∧ ∀ s ∈ x.cells,s.length≤600:=by
 unfold okK at h
 simp only [Bool.and_eq_true,decide_eq_true_eq] at h
 refine ⟨by omega,fun s hs => ?_⟩
 have:=List.all_eq_true.1 h.2 s hs
 simp only [okS,Bool.and_eq_true,decide_eq_true_eq] at this
 omega
def cntd (n : Int) : Bool:=decide (1≤n) && decide (n≤1000000)
def itM (tag call : Int) (x : Item) : Bool:=decide (x.t < tag) && decide (x.c < call)
def rowM (tag call : Int) (x : Stk) (a : Alloc) : Bool:=x.num == a.num && x.cells.length == a.cells.length && okK x && x.cells.flatten.all (fun it=>a.live && itM tag call it)
def headM (m : Mon) : Bool:=okM m.mem.al m.mem.next && m.stks.length == m.mem.al.length && cntd m.tag && cntd m.call && okR m.run
def lastM (m : Mon) : Bool:=m.run.length == 0 || decide (lastR m.run < m.call)
def rowAtM (m : Mon) (i : Nat) : Bool:=match m.stks[i]?,m.mem.al[i]? with
 | some x,some a=>rowM m.tag m.call x a
 | _,_=>false
def rowsM (m : Mon) : Bool:=(List.range m.mem.al.length).all (rowAtM m)
def okMon (m : Mon) : Bool:=headM m && lastM m && rowsM m
def monErr (m : Mon) : Int:=if okMon m then 0 else 8
theorem monErr_head {m : Mon} (h : headM m=false) : monErr m=8:=by simp [monErr,okMon,h]
theorem monErr_last {m : Mon} (h : lastM m=false) : monErr m=8:=by simp [monErr,okMon,h]
theorem monErr_row {m : Mon} {i : Nat} (hi : i < m.mem.al.length) (h : rowAtM m i=false) : monErr m=8:=by
 have : rowsM m=false:=by
  rw [Bool.eq_false_iff]
  intro hr
  have:=List.all_eq_true.1 hr i (List.mem_range.2 hi)
  rw [h] at this
  cases this
 simp [monErr,okMon,this]
theorem monErr_ok {m : Mon} (h1 : headM m=true) (h2 : lastM m=true) (h3 : ∀ i,i < m.mem.al.length→rowAtM m i=true) : monErr m=0:=by
 have : rowsM m=true:=List.all_eq_true.2 fun i hi=>h3 i (List.mem_range.1 hi)
 simp [monErr,okMon,h1,h2,this]
end Go.Proofs.YtoanoodfacmieaaDoor

/- What reads from the blocks of a set alone; tables of stacks that the call owns; what a function of layer 35 gives back; no program in sight. -/
namespace Go.Proofs.YtoanoodfacmieaaDoor
set_option maxRecDepth 100000
open Go.RowKit
def Fq (S : Nat→Prop) (w : World) (R : World→Prop) : Prop := ∀ w'' : World,(∀ b,S b→b < w.heap.size→w''.heap[b]? = w.heap[b]?)→R w''
section
variable {S S' T : Nat→Prop} {w w' : World} {R R' : World→Prop}
theorem Fq.read (h : Fq S w R) : R w:=h w fun _ _ _=>rfl
theorem Fq.of_all (h : ∀ w,R w) : Fq S w R:=fun w'' _=>h w''
theorem Fq.imp (h : Fq S w R) (hr : ∀ w,R w→R' w) : Fq S w R':=fun w'' hb=>hr _ (h w'' hb)
theorem Fq.to (h : Fq S w R) (hE : ExtBut T w w') (hd : ∀ b,S b→b < w.heap.size → ¬ T b) (hS : ∀ b,S b→b < w.heap.size→S' b) : Fq S' w' R:=fun w'' hb =>
 h w'' fun b h1 h2=>(hb b (hS b h1 h2) (Nat.lt_of_lt_of_le h2 hE.size)).trans (hE.block b h2 (hd b h1 h2))
theorem Fq.ext (h : Fq S w R) (hE : Ext w w') : Fq S w' R:=h.to (ExtBut.of_ext (S:=fun _=>False) hE) (fun _ _ _ h=>h) (fun _ h _=>h)
theorem Fq.mono (h : Fq S w R) (hS : ∀ b,S b→b < w.heap.size→S' b) : Fq S' w R:=fun w'' hb=>h w'' fun b h1 h2=>hb b (hS b h1 h2) h2
theorem Fq.but (h : Fq S w R) (hE : ExtBut T w w') (hd : ∀ b,S b→b < w.heap.size → ¬ T b) : Fq S w' R:=h.to hE hd (fun _ h _=>h)
theorem Fq.set (h : Fq S w R) {p : Addr} (hp : S p.block→w.heap.size≤p.block) (u : Value) : Fq S (w.setCell p u) R:=h.but (ExtBut.setCell w p u) fun b h1 h2 e=>by have e' : b=p.block:=e;subst e';have:=hp h1;omega
end
theorem Fq.of_but {B : Nat} {w' : World} {R : World→Prop} (hR : ∀ w1 w2,CExt w1 w2→R w1→R w2) (h : ∀ w'' : World,ExtBut (fun b=>b < B) w' w''→R w'') : Fq (fun b=>B≤b) w' R:=Foot.of_but hR h
theorem Fq.to_but {B : Nat} {w' w'' : World} {R : World→Prop} (h : Fq (fun b=>B≤b) w' R) (hE : ExtBut (fun b=>b < B) w' w'') : R w'':=h w'' fun b h1 h2=>hE.block b h2 (by omega)
theorem Als.cext {w w' : World} {v : Value} {l : List Alloc} (h : Als w v l) (hc : CExt w w') : Als w' v l:=Tb.cext h hc fun _ _ h=>Sl.cext h hc
theorem Sts.cext {w w' : World} {v : Value} {l : List (List Item)} (h : Sts w v l) (hc : CExt w w') : Sts w' v l:=Tb.cext h hc fun _ _ h=>Sl.cext h hc
theorem Kts.cext {w w' : World} {v : Value} {l : List Stk} (h : Kts w v l) (hc : CExt w w') : Kts w' v l:=Tb.cext h hc fun _ _ h=>Sts.cext h hc
theorem Nts.cext {w w' : World} {v : Value} {l : List Int} (h : Nts w v l) (hc : CExt w w') : Nts w' v l:=Sl.cext h hc
theorem RdM.cext {w w' : World} {v : Value} {m : Mem} (h : RdM w v m) (hc : CExt w w') : RdM w' v m:=by
 obtain ⟨s,e,hs⟩:=h
 exact ⟨s,e,hs.cext hc⟩
theorem FrM.fs {w w' : World} {v : Value} {m : Mem} (h : FrM w w' v m) : ∃ s,v = .agg #[s,.int .i64 m.next]∧Fq (fun b=>w.heap.size≤b) w' (fun w=>Als w s m.al):=by
 obtain ⟨s,rfl,-⟩:=h.read
 refine ⟨s,rfl,Fq.of_but (fun _ _ hc h=>h.cext hc) fun w'' hE => ?_⟩
 obtain ⟨s',e,h'⟩:=h w'' hE
 simp only [Value.agg.injEq,Array.mk.injEq,List.cons.injEq,and_true] at e
 rw [e];exact h'
theorem OM.fs {w : World} {B : Nat} {v : Value} {vs : List Value} {l : List Alloc} (h : OM w B v vs l) : Fq (fun b=>B≤b) w (fun w=>Als w v l) :=
 Fq.of_but (fun _ _ hc h=>h.cext hc) fun _ hE=>OM.read (OM.but h hE (fun g e hl=>by have:=(h.outer.lt e).1;omega) (fun s hs g e hl=>by have:=(OM.inner_lt h s hs g e).1;omega))
theorem OwnS.fs {w : World} {B : Nat} {v : Value} {vs : List Value} {l : List (List Item)} (h : OwnS w B v vs l) : Fq (fun b=>B≤b) w (fun w=>Sts w v l) :=
 Fq.of_but (fun _ _ hc h=>h.cext hc) fun _ hE=>OwnS.sts (OwnS.but h hE (fun b hb hl=>by omega))
theorem Own.fs {w : World} {B : Nat} {e k n : Nat} {v : Value} {xs : List Value} (h : Own w B e k v n xs) : Fq (fun b=>v.ownBlock=some b) w (fun w=>Sl w k v n xs):=fun _ hb =>
 h.sl.of_block fun g e=>hb g e (h.lt e).2
structure OwnK (w : World) (B : Nat) (v : Value) (vs : List Value) (l : List Stk) : Prop where
 len : vs.length=l.length
 outer : Own w B 44 2 v l.length (trows krow vs l)
 inner : ∀ (i : Nat) (s : Value) (x : Stk),vs[i]? = some s→l[i]? = some x→Fq (fun b=>B≤b∧v.ownBlock≠some b) w (fun w=>Sts w s x.cells)
theorem Own.sl_of {w w'' : World} {B : Nat} {e k n : Nat} {v : Value} {xs : List Value} (h : Own w B e k v n xs) (hb : ∀ b,B≤b→b < w.heap.size→w''.heap[b]? = w.heap[b]?) : Sl w'' k v n xs :=
 h.fs w'' fun b h1 h2=>hb b (h.lt h1).1 h2
theorem OwnK.fs {w : World} {B : Nat} {v : Value} {vs : List Value} {l : List Stk} (h : OwnK w B v vs l) : Fq (fun b=>B≤b) w (fun w=>Kts w v l):=fun w'' hb =>
 ⟨vs,All2.iff.2 ⟨h.len,fun i s x hs hx=>(h.inner i s x hs hx) w'' fun b h1 h2=>hb b h1.1 h2⟩,h.outer.sl_of hb⟩
theorem OwnK.read {w : World} {B : Nat} {v : Value} {vs : List Value} {l : List Stk} (h : OwnK w B v vs l) : Kts w v l:=h.fs.read
theorem OwnK.nil (w : World) (B : Nat) : OwnK w B (.slice none 0 0) [] []:=⟨rfl,Own.nil _ _ _ _,fun i _ _ h=>by simp at h⟩
theorem OwnK.but {S : Nat→Prop} {w w' : World} {B : Nat} {v : Value} {vs : List Value} {l : List Stk} (h : OwnK w B v vs l) (hE : ExtBut S w w') (hS : ∀ b,B≤b → ¬ S b) : OwnK w' B v vs l :=
 ⟨h.len,ExtBut.own h.outer hE (fun g e=>hS g (h.outer.lt e).1),fun i s x hs hx=>(h.inner i s x hs hx).but hE fun b h1 _=>hS b h1.1⟩
theorem OwnK.ext {w w' : World} {B : Nat} {v : Value} {vs : List Value} {l : List Stk} (h : OwnK w B v vs l) (hE : Ext w w') : OwnK w' B v vs l:=h.but (ExtBut.of_ext (S:=fun _=>False) hE) (fun _ _ h=>h)
theorem OwnK.mono {w : World} {B B' : Nat} {v : Value} {vs : List Value} {l : List Stk} (h : OwnK w B v vs l) (hB : B'≤B) : OwnK w B' v vs l :=
 ⟨h.len,h.outer.mono hB,fun i s x hs hx=>(h.inner i s x hs hx).mono fun _ h1 _=>⟨Nat.le_trans hB h1.1,h1.2⟩⟩
theorem Fq.keeps {w w' : World} {B B2 : Nat} {v v' : Value} {R : World→Prop} (h : Fq (fun b=>B≤b∧v.ownBlock≠some b) w R) (hK : Keeps w w' B2 v) (hb : v'.ownBlock=v.ownBlock ∨ ∃ g,v'.ownBlock=some g∧w.heap.size≤g) : Fq (fun b=>B≤b∧v'.ownBlock≠some b) w' R :=
 h.to (ExtBut.of_keeps hK) (fun b h1 _ e=>h1.2 e) fun b h1 h2=>⟨h1.1,fun e=>by
  rcases hb with hb | ⟨g,hb,hg⟩
  ·exact h1.2 (hb.symm.trans e)
  ·rw [hb] at e;cases e;omega⟩
theorem OwnK.push {wx w' : World} {B : Nat} {v v' s : Value} {vs : List Value} {l : List Stk} {x : Stk} (h : OwnK wx B v vs l) (hR : Fq (fun b=>B≤b∧v.ownBlock≠some b) wx (fun w=>Sts w s x.cells))
  (hO : Own w' B 44 2 v' (l.length+1) (trows krow vs l ++ krow s x)) (hK : Keeps wx w' B v) (hb : v'.ownBlock=v.ownBlock ∨ ∃ g,v'.ownBlock=some g∧wx.heap.size≤g) : OwnK w' B v' (vs ++ [s]) (l ++ [x]):=by
 refine ⟨by simp [h.len],?_,fun i u y hu hy => ?_⟩
 ·rw [List.length_append,trows_append krow h.len,trows_one]
  exact hO
 ·by_cases hi : i < vs.length
  ·rw [List.getElem?_append_left hi] at hu
   rw [List.getElem?_append_left (by rw [← h.len];exact hi)] at hy
   exact (h.inner i u y hu hy).keeps hK hb
  ·have hlt:=(List.getElem?_eq_some_iff.1 hu).1
   have hl:=h.len
   simp at hlt
   obtain rfl : i=vs.length:=by omega
   simp at hu
   rw [hl] at hy
   simp at hy
   subst hu hy
   exact hR.keeps hK hb
theorem OwnK.set {w : World} {B g n cap : Nat} {s' : Value} {vs : List Value} {l : List Stk} {i : Nat} {x y : Stk} (h : OwnK w B (.slice (some ⟨g,0,none⟩) n cap) vs l) (hx : l[i]? = some x) (hn : y.num=x.num)
  (hR : Fq (fun b=>B≤b∧b≠g) w (fun w=>Sts w s' y.cells)) : OwnK (w.setCell ⟨g,i * 2+1,none⟩ s') B (.slice (some ⟨g,0,none⟩) n cap) (vs.set i s') (l.set i y):=by
 have hi:=(List.getElem?_eq_some_iff.1 hx).1
 obtain ⟨s,hs⟩ : ∃ s,vs[i]? = some s:=⟨vs[i]'(by rw [h.len];exact hi),by simp⟩
 have hnl : n=l.length:=by
  rcases h.outer.2 with ⟨h1,_⟩ | ⟨g',cap',cur,h1,_⟩ <;> simp only [Value.slice.injEq] at h1 <;> omega
 subst hnl
 have hO:=h.outer.set (i * 2+1) s'
 rw [trows_set krow krow_len (s':=s') (a':=y) hs hx (by omega) (by simp [krow,hn])] at hO
 have hne : ∀ {b : Nat},(Value.slice (some ⟨g,0,none⟩) l.length cap).ownBlock≠some b ↔ b≠g:=fun {b} => by simp [Value.ownBlock];exact ⟨fun h e=>h e.symm,fun h e=>h e.symm⟩
 refine ⟨by simp [h.len],by rw [List.length_set];exact hO,fun j u z hu hz => ?_⟩
 by_cases e : j=i
 ·subst e
  rw [List.getElem?_set_self (by rw [h.len];exact hi)] at hu
  rw [List.getElem?_set_self hi] at hz
  cases hu;cases hz
  exact (hR.set (fun h=>absurd rfl h.2) s').mono fun b h1 _=>⟨h1.1,hne.2 h1.2⟩
 ·rw [List.getElem?_set_ne (fun e'=>e e'.symm)] at hu hz
  exact (h.inner j u z hu hz).set (fun h=>absurd rfl (hne.1 h.2)) s'
theorem OwnK.cell {w : World} {B n cap : Nat} {a : Option Addr} {vs : List Value} {l : List Stk} {i : Nat} {x : Stk} (h : OwnK w B (.slice a n cap) vs l) (hx : l[i]? = some x) :
  ∃ g s,a=some ⟨g,0,none⟩∧B≤g∧g < w.heap.size∧vs[i]? = some s∧Fq (fun b=>B≤b∧b≠g) w (fun w=>Sts w s x.cells)∧w.cell? ⟨g,i * 2,none⟩=some (.int .i64 x.num)∧w.cell? ⟨g,i * 2+1,none⟩=some s ∧ ∀ j,w.frozen? ⟨g,j,none⟩=false:=by
 have hi:=(List.getElem?_eq_some_iff.1 hx).1
 obtain ⟨s,hs⟩ : ∃ s,vs[i]? = some s:=⟨vs[i]'(by rw [h.len];exact hi),by simp⟩
 obtain ⟨g,cp,e,hnc,hcm,hg1,hg2⟩:=h.outer.form (by omega)
 simp only [Value.slice.injEq] at e
 obtain ⟨rfl,rfl,rfl⟩:=e
 have t : ∀ j,j < 2→w.cell? ⟨g,i * 2+j,none⟩=(krow s x)[j]? := fun j hj=>(h.outer.cellAt (i * 2+j) (by omega)).trans (trows_get krow krow_len hs hx hj)
 exact ⟨g,s,rfl,hg1,hg2,hs,(h.inner i s x hs hx).mono fun b h1 _=>⟨h1.1,fun e=>h1.2 (by rw [e];rfl)⟩,t 0 (by omega),t 1 (by omega),fun j=>h.outer.frozen j⟩
theorem FrMon.of_fs {w w' : World} {sa ss sr : Value} {m : Mon} (h1 : Fq (fun b=>w.heap.size≤b) w' (fun w=>Als w sa m.mem.al)) (h2 : Fq (fun b=>w.heap.size≤b) w' (fun w=>Kts w ss m.stks)) (h3 : Fq (fun b=>w.heap.size≤b) w' (fun w=>Nts w sr m.run)) :
  FrMon w w' (.agg #[sa,.int .i64 m.mem.next,ss,sr,.int .i64 m.tag,.int .i64 m.call]) m:=fun _ hE=>⟨sa,ss,sr,rfl,h1.to_but hE,h2.to_but hE,h3.to_but hE⟩
theorem RdMon.cext {w w' : World} {v : Value} {m : Mon} (h : RdMon w v m) (hc : CExt w w') : RdMon w' v m:=by
 obtain ⟨sa,ss,sr,rfl,h1,h2,h3⟩:=h
 exact ⟨sa,ss,sr,rfl,h1.cext hc,h2.cext hc,h3.cext hc⟩
theorem FrMon.fs {w w' : World} {v : Value} {m : Mon} (h : FrMon w w' v m) : Fq (fun b=>w.heap.size≤b) w' (fun w=>RdMon w v m):=Fq.of_but (fun _ _ hc h=>h.cext hc) h
theorem FrMon.parts {w w' : World} {v : Value} {m : Mon} (h : FrMon w w' v m) : ∃ sa ss sr,v = .agg #[sa,.int .i64 m.mem.next,ss,sr,.int .i64 m.tag,.int .i64 m.call]∧Fq (fun b=>w.heap.size≤b) w' (fun w=>Als w sa m.mem.al∧Kts w ss m.stks∧Nts w sr m.run):=by
 obtain ⟨sa,ss,sr,rfl,-⟩:=h.read
 refine ⟨sa,ss,sr,rfl,h.fs.imp fun w hr => ?_⟩
 obtain ⟨s1,s2,s3,e,h1,h2,h3⟩:=hr
 simp only [Value.agg.injEq,Array.mk.injEq,List.cons.injEq,and_true,true_and] at e
 obtain ⟨rfl,rfl,rfl⟩:=e
 exact ⟨h1,h2,h3⟩
theorem RdMon.zero (w : World) : RdMon w (.agg #[.slice none 0 0,.int .i64 0,.slice none 0 0,.slice none 0 0,.int .i64 0,.int .i64 0]) Mon.zero:=⟨_,_,_,rfl,Als.nil w,Kts.nil w,Nts.nil w⟩
theorem FrMon.zero (w w' : World) : FrMon w w' (.agg #[.slice none 0 0,.int .i64 0,.slice none 0 0,.slice none 0 0,.int .i64 0,.int .i64 0]) Mon.zero:=fun w'' _=>RdMon.zero w''
theorem FrMon.but {w w' w2 : World} {v : Value} {m : Mon} {S : Nat→Prop} (h : FrMon w w' v m) (hE : ExtBut S w' w2) (hS : ∀ b,S b→b < w.heap.size) : FrMon w w2 v m:=fun w'' h2=>h w'' ((hE.mono fun b _ hb=>hS b hb).trans h2)
end Go.Proofs.YtoanoodfacmieaaDoor
