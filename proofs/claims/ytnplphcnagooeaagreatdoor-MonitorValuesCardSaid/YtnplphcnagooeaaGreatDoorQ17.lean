/- Several texts in one: MonP, MonH, MonU, CelX4, CelX5, CelX6. -/
import Derived.Test.YtnplphcnagooeaaGreatDoorQ13
import Derived.Test.YtnplphcnagooeaaGreatDoorQ16
import Derived.Test.YtnplphcnagooeaaGreatDoorQ09
import Derived.Test.YtnplphcnagooeaaGreatDoorQ14
import Derived.Test.YtnplphcnagooeaaGreatDoorQ11
import Derived.Deep.RegionHeld3
/- The region in which stacks are made and laid into a variable. -/
namespace Go.Proofs.YtnplphcnagooeaaGreatDoor
set_option maxRecDepth 100000
open Go.RowKit
def X35 (N : Nat) (x : Stk) (w : World) (vs : Array Value) : Prop := ∃ a c us,vs=#[.int .i64 x.num,.slice a x.cells.length c]∧OwnS w N (.slice a x.cells.length c) us x.cells
theorem X35_bxr {N M : Nat} {x : Stk} : ∀ w w' vs,X35 N x w vs→BxR M 68 2 w w'→X35 N x w' vs:=fun _ _ _ ⟨a,c,us,h1,h2⟩ hR=>⟨a,c,us,h1,h2.bxr hR⟩
def PrRK (N : Nat) (x : Stk) (f : Option Addr→Nat→Value) : PrR (BxX N 68 2 (X35 N x)):=⟨fun v w => ∃ a c us,v=f a c∧OwnS w N (.slice a x.cells.length c) us x.cells,fun _ _ _ ⟨a,c,us,h1,h2⟩ hR=>⟨a,c,us,h1,h2.bxr hR.rel⟩⟩
def PrRT (N : Nat) (x : Stk) : PrR (BxX N 68 2 (X35 N x)):=⟨fun v w => ∃ b a c us,v = .pointer (some ⟨b,0,none⟩)∧N≤b∧Box w b 68 #[.int .i64 x.num,.slice a x.cells.length c]∧OwnS w N (.slice a x.cells.length c) us x.cells,fun _ w w' ⟨b,a,c,us,h1,hN,h2,h3⟩ hR=>by
 rcases hR.block b h2.lt with h4 | ⟨-,-,vs,-,h6,a',c',us',rfl,h7⟩
 ·exact ⟨b,a,c,us,h1,hN,h4.trans h2,h3.bxr hR.rel⟩
 ·exact ⟨b,a',c',us',h1,hN,h6,h7⟩⟩
end Go.Proofs.YtnplphcnagooeaaGreatDoor

/- Contracts: monitor.at (the search for the stacks of an allocation). -/
namespace Go.Proofs.YtnplphcnagooeaaGreatDoor
set_option maxRecDepth 100000
open Go.RowKit
def ixK : Option Nat→Int
 | none => -1
 | some i=>(i : Int)
def numK (n : Int) (x : Stk) : Bool:=x.num == n
theorem kIdxHit {p : Stk→Bool} {l : List Stk} {k : Nat} {x : Stk} (h : (l.take k).any p=false) (hx : l[k]? = some x) (hp : p x=true) : l.findIdx? p=some k:=by
 rw [List.findIdx?_eq_some_iff_getElem]
 obtain ⟨hk,rfl⟩:=List.getElem?_eq_some_iff.1 hx
 refine ⟨hk,hp,fun j hj => ?_⟩
 simp only [List.any_eq_false] at h
 have:=h l[j] (by rw [List.mem_iff_getElem?];exact ⟨j,by rw [List.getElem?_take,if_pos hj];simp⟩)
 simpa using this
theorem kIdxMiss {p : Stk→Bool} {l : List Stk} (h : l.any p=false) : l.findIdx? p=none:=by
 rw [List.findIdx?_eq_none_iff]
 simpa [List.any_eq_false] using h
def PredN (g : Nat) (cap : Array Value) (W : World) (p : Stk→Bool) : Prop :=
 ∀ (x : Stk) (s : Value) (w : World),Ext W w→Calls Tryz.prog g (#[.agg #[.int .i64 x.num,s]] ++ cap) w fun e w'=>e = .returned (.bool (p x))∧Ext w w'
theorem callFunc_at1 (args : Array Value) (w : World) : (callFunc 83 args).run Tryz.prog w = .ok (.enter 83 args) w:=by kernel_rfl
set_option maxHeartbeats 400000 in
theorem monitor_at1 (n : Int) (B : Nat) (W : World) (hc : W.cell? ⟨B,0,none⟩=some (.int .i64 n)) : PredN 83 #[.pointer (some ⟨B,0,none⟩)] W (numK n):=by
 intro x s w hW
 obtain ⟨num,l⟩:=x
 have hcw:=hW.cell hc
 have hB:=World.block_lt_of_cell? _ _ hcw
 have hE:=(Ext.refl w).alloc (.cells #[.int .i64 num,s] 68)
 clear hc hW
 show Calls Tryz.prog 83 #[.agg #[.int .i64 num,s],.pointer (some ⟨B,0,none⟩)] w _
 go_enter Tryz.func83,Tryz.ntmps83
 go_wp2
 go_ret
 exact ⟨rfl,hE⟩
set_option maxHeartbeats 800000 in
theorem indexFunc_num {g : Nat} {cap : Array Value} {p : Stk→Bool} {l : List Stk} {v : Value} {w : World} (hg : ∀ args w,(callFunc g args).run Tryz.prog w = .ok (.enter g args) w)
  (hp : PredN g cap w p) (hl : Kts w v l) : Calls Tryz.prog 82 #[v,.func (.func g) #[] cap] w fun e w'=>e = .returned (.int .i64 (ixK (l.findIdx? p)))∧Ext w w':=by
 obtain ⟨a,cp,rfl,hlc,hcm,-⟩:=hl.form
 unfold maxLen at hcm
 have hL:=Lib.hid hl
 clear hl
 go_enter Tryz.func82,Tryz.ntmps82
 go_wp2
 go_loopw [8] (fun i wr => ∃ k : Nat,k≤l.length∧i = .int .i64 k∧Ext w wr∧Hid ((l.take k).any p=false)) (fun i _=>l.length - (intOf i).toNat)
 case atStart=>exact ⟨0,Nat.zero_le _,rfl,Ext.refl _,by simp [Hid]⟩
 case round =>
  obtain ⟨k,hk,rfl,hE,hN⟩:=hrel
  by_cases hlt : k < l.length
  ·obtain ⟨x,hx⟩ : ∃ x,l[k]? = some x:=⟨l[k],by simp [hlt]⟩
   obtain ⟨b,off,sv,rfl,hbb,d0,d1,hcl⟩:=(hL.out.ext hE).cell hx
   have hX:=Lib.hid hx
   clear hx
   replace hcl:=Lib.hid hcl
   cases hpx : p x
   all_goals
    have hP:=Lib.hid hpx
    clear hpx
    go_wp2_with fail
    refine (hp x sv wr hE).mono ?_
    rintro e w1 ⟨rfl,hE1⟩
    have hpx:=hP.out
    go_wp2
   ·go_roundw
    case rel=>exact ⟨k+1,by omega,by go_num,hE.trans hE1,sany_take_succ hN.out hX.out hP.out⟩
    case measure=>simp [intOf];omega
   ·go_ret
    exact ⟨by rw [kIdxHit hN.out hX.out hP.out];rfl,hE.trans hE1⟩
  ·have hkl : k=l.length:=by omega
   subst hkl
   have hN':=hN.out
   rw [List.take_length] at hN'
   have hg:=Lib.hid (kIdxMiss hN')
   clear hN'
   go_wp2
   go_ret
   exact ⟨by rw [hg.out];rfl,hE⟩
set_option maxHeartbeats 800000 in
theorem monitor_at {m : Mon} {sa ss sr : Value} {w : World} (n : Int) (hok : MonOk m) (hK : Kts w ss m.stks) :
  Calls Tryz.prog 39 #[.agg #[sa,.int .i64 m.mem.next,ss,sr,.int .i64 m.tag,.int .i64 m.call],.int .i64 n] w fun e w'=>e = .returned (.int .i64 (ixK (atNum m.mem.al n)))∧Ext w w':=by
 have hE0:=((Ext.refl w).alloc (.cells #[sa,.int .i64 m.mem.next,ss,sr,.int .i64 m.tag,.int .i64 m.call] 28)).alloc (.cells #[.int .i64 n] 3)
 have hc : ((w.alloc (.cells #[sa,.int .i64 m.mem.next,ss,sr,.int .i64 m.tag,.int .i64 m.call] 28)).alloc (.cells #[.int .i64 n] 3)).cell? ⟨w.heap.size+1,0,none⟩=some (.int .i64 n):=by simp
 have hI:=Lib.hid (indexFunc_num callFunc_at1 (monitor_at1 n (w.heap.size+1) _ hc) (hK.ext hE0))
 have hat:=Lib.hid (hok.at n)
 have hmf : ∀ (fn : Fn) (first cap : Array Value) (w : World),(Instr.makeFunc fn first cap).run Tryz.prog w = .ok (.func fn first cap) w:=fun _ _ _ _=>rfl
 obtain ⟨a,cp,rfl,-⟩:=hK.form
 clear hK hc hok
 go_enter Tryz.func39,Tryz.ntmps39
 go_wp2_with fail
 refine hI.out.mono ?_
 rintro e w1 ⟨rfl,hE1⟩
 go_wp2
 go_ret
 exact ⟨by show _=Ending.returned (.int .i64 (ixK (atNum m.mem.al n)));rw [← hat.out];rfl,hE0.trans hE1⟩
end Go.Proofs.YtnplphcnagooeaaGreatDoor

/- Contracts: monitor.Load. (printed by gen/mon35i.py) -/
namespace Go.Proofs.YtnplphcnagooeaaGreatDoor
set_option maxRecDepth 100000
open Go.RowKit
def RetLd (w : World) (m : Mon) (l : List Cell) (why err : Int) (en : Ending) (w' : World) : Prop :=
 ∃ v u,en = .returned (.tuple #[v,u,.int .u8 why,.int .i64 err])∧FrMon w w' v m∧Fq (fun b=>w.heap.size≤b) w' (fun w=>Cls w u l)∧Ext w w'
set_option maxRecDepth 100000 in
set_option maxHeartbeats 6400000 in
theorem monitor_Load {m : Mon} {sa ss sr : Value} {wS : World} (pa po pt n : Int) (hA : Als wS sa m.mem.al) (hn : i64B m.mem.next) (hK : Kts wS ss m.stks) (hR : Nts wS sr m.run) :
  Calls Tryz.prog 9 #[.agg #[sa,.int .i64 m.mem.next,ss,sr,.int .i64 m.tag,.int .i64 m.call],.agg #[.int .i64 pa,.int .i64 po,.int .i64 pt],.int .i64 n] wS (RetLd wS (loadM m ⟨pa,po,pt⟩ n).1 (loadM m ⟨pa,po,pt⟩ n).2.1 (loadM m ⟨pa,po,pt⟩ n).2.2.1 (loadM m ⟨pa,po,pt⟩ n).2.2.2):=by
 obtain ⟨aa,ac,rfl,hac,hacm,-⟩:=hA.form
 obtain ⟨ka,kc,rfl,hkc,hkcm,-⟩:=hK.form
 obtain ⟨ra,rc,rfl,hrc,hrcm,-⟩:=hR.form
 unfold maxLen at hacm hkcm hrcm
 have hE0 : Ext wS (World.alloc (World.alloc (World.alloc wS (.cells #[.slice aa m.mem.al.length ac,.int .i64 m.mem.next,.slice ka m.stks.length kc,.slice ra m.run.length rc,.int .i64 m.tag,.int .i64 m.call] 28)) (.cells #[.int .i64 pa,.int .i64 po,.int .i64 pt] 30)) (.cells #[.slice none 0 0,.int .i64 0,.slice none 0 0,.slice none 0 0,.int .i64 0,.int .i64 0] 28)):=by repeat (first | exact Ext.refl _ | refine Ext.alloc ?_ _)
 have bM : Box (World.alloc (World.alloc (World.alloc wS (.cells #[.slice aa m.mem.al.length ac,.int .i64 m.mem.next,.slice ka m.stks.length kc,.slice ra m.run.length rc,.int .i64 m.tag,.int .i64 m.call] 28)) (.cells #[.int .i64 pa,.int .i64 po,.int .i64 pt] 30)) (.cells #[.slice none 0 0,.int .i64 0,.slice none 0 0,.slice none 0 0,.int .i64 0,.int .i64 0] 28)) (wS.heap.size) 28 #[.slice aa m.mem.al.length ac,.int .i64 m.mem.next,.slice ka m.stks.length kc,.slice ra m.run.length rc,.int .i64 m.tag,.int .i64 m.call]:=(by
  have h:=Box.new wS 28 #[.slice aa m.mem.al.length ac,.int .i64 m.mem.next,.slice ka m.stks.length kc,.slice ra m.run.length rc,.int .i64 m.tag,.int .i64 m.call]
  replace h:=Box.ext h ((Ext.refl _).alloc (.cells #[.int .i64 pa,.int .i64 po,.int .i64 pt] 30))
  replace h:=Box.ext h ((Ext.refl _).alloc (.cells #[.slice none 0 0,.int .i64 0,.slice none 0 0,.slice none 0 0,.int .i64 0,.int .i64 0] 28))
  exact h)
 have bP : Box (World.alloc (World.alloc (World.alloc wS (.cells #[.slice aa m.mem.al.length ac,.int .i64 m.mem.next,.slice ka m.stks.length kc,.slice ra m.run.length rc,.int .i64 m.tag,.int .i64 m.call] 28)) (.cells #[.int .i64 pa,.int .i64 po,.int .i64 pt] 30)) (.cells #[.slice none 0 0,.int .i64 0,.slice none 0 0,.slice none 0 0,.int .i64 0,.int .i64 0] 28)) (wS.heap.size+1) 30 #[.int .i64 pa,.int .i64 po,.int .i64 pt]:=(by
  have h:=Box.new (World.alloc wS (.cells #[.slice aa m.mem.al.length ac,.int .i64 m.mem.next,.slice ka m.stks.length kc,.slice ra m.run.length rc,.int .i64 m.tag,.int .i64 m.call] 28)) 30 #[.int .i64 pa,.int .i64 po,.int .i64 pt]
  simp only [World.size_alloc] at h
  replace h:=Box.ext h ((Ext.refl _).alloc (.cells #[.slice none 0 0,.int .i64 0,.slice none 0 0,.slice none 0 0,.int .i64 0,.int .i64 0] 28))
  exact h)
 have bR : Box (World.alloc (World.alloc (World.alloc wS (.cells #[.slice aa m.mem.al.length ac,.int .i64 m.mem.next,.slice ka m.stks.length kc,.slice ra m.run.length rc,.int .i64 m.tag,.int .i64 m.call] 28)) (.cells #[.int .i64 pa,.int .i64 po,.int .i64 pt] 30)) (.cells #[.slice none 0 0,.int .i64 0,.slice none 0 0,.slice none 0 0,.int .i64 0,.int .i64 0] 28)) (wS.heap.size+2) 28 #[.slice none 0 0,.int .i64 0,.slice none 0 0,.slice none 0 0,.int .i64 0,.int .i64 0]:=(by
  have h:=Box.new (World.alloc (World.alloc wS (.cells #[.slice aa m.mem.al.length ac,.int .i64 m.mem.next,.slice ka m.stks.length kc,.slice ra m.run.length rc,.int .i64 m.tag,.int .i64 m.call] 28)) (.cells #[.int .i64 pa,.int .i64 po,.int .i64 pt] 30)) 28 #[.slice none 0 0,.int .i64 0,.slice none 0 0,.slice none 0 0,.int .i64 0,.int .i64 0]
  simp only [World.size_alloc] at h
  exact h)
 obtain ⟨w0,hw0⟩ : ∃ z,(World.alloc (World.alloc (World.alloc wS (.cells #[.slice aa m.mem.al.length ac,.int .i64 m.mem.next,.slice ka m.stks.length kc,.slice ra m.run.length rc,.int .i64 m.tag,.int .i64 m.call] 28)) (.cells #[.int .i64 pa,.int .i64 po,.int .i64 pt] 30)) (.cells #[.slice none 0 0,.int .i64 0,.slice none 0 0,.slice none 0 0,.int .i64 0,.int .i64 0] 28))=z:=⟨_,rfl⟩
 rw [hw0] at hE0 bM bP bR
 have hs0 : w0.heap.size=wS.heap.size+3:=by rw [← hw0];simp
 replace hs0:=Lib.hid hs0
 replace hA:=Lib.hid hA
 replace hK:=Lib.hid hK
 replace hR:=Lib.hid hR
 replace hn:=Lib.hid hn
 go_enter Tryz.func9,Tryz.ntmps9
 obtain ⟨bM_0,bM_1,bM_2,bM_3,bM_4,bM_5,bM_l⟩:=bM.c6
 go_wp2_with fail
 clear bM_0 bM_1 bM_2 bM_3 bM_4 bM_5 bM_l
 refine (mon_Check' (hA.out.ext hE0) hn.out (hK.out.ext hE0) (hR.out.ext hE0)).mono ?_
 rintro e w1 ⟨rfl,hE1⟩
 replace bM:=bM.ext hE1
 replace bP:=bP.ext hE1
 replace bR:=bR.ext hE1
 have hF1:=Ext.trans hE0 hE1
 clear hw0
 cases hok : okMon m
 ·skip
  rw [monErr_not hok]
  have hres:=Lib.hid (loadM_bad (p:=⟨pa,po,pt⟩) (n:=n) hok)
  clear hok
  obtain ⟨bM_0,bM_1,bM_2,bM_3,bM_4,bM_5,bM_l⟩:=bM.c6
  have bR_0 : World.cell? w1 ⟨wS.heap.size+2,0,none⟩=some (.slice none 0 0):=bR.cell 0
  have bR_1 : World.cell? w1 ⟨wS.heap.size+2,1,none⟩=some (.int .i64 0):=bR.cell 1
  have bR_2 : World.cell? w1 ⟨wS.heap.size+2,2,none⟩=some (.slice none 0 0):=bR.cell 2
  have bR_3 : World.cell? w1 ⟨wS.heap.size+2,3,none⟩=some (.slice none 0 0):=bR.cell 3
  have bR_4 : World.cell? w1 ⟨wS.heap.size+2,4,none⟩=some (.int .i64 0):=bR.cell 4
  have bR_5 : World.cell? w1 ⟨wS.heap.size+2,5,none⟩=some (.int .i64 0):=bR.cell 5
  have bR_f0 : World.frozen? w1 ⟨wS.heap.size+2,0,none⟩=false:=bR.frozen 0
  have bR_f1 : World.frozen? w1 ⟨wS.heap.size+2,1,none⟩=false:=bR.frozen 1
  have bR_f2 : World.frozen? w1 ⟨wS.heap.size+2,2,none⟩=false:=bR.frozen 2
  have bR_f3 : World.frozen? w1 ⟨wS.heap.size+2,3,none⟩=false:=bR.frozen 3
  have bR_f4 : World.frozen? w1 ⟨wS.heap.size+2,4,none⟩=false:=bR.frozen 4
  have bR_f5 : World.frozen? w1 ⟨wS.heap.size+2,5,none⟩=false:=bR.frozen 5
  have bR_l:=bR.lt
  go_wp2
  rw [hres.out]
  have hXe : ExtBut (fun b=>wS.heap.size≤b∧b < wS.heap.size+3) w1 (World.setCell (World.setCell (World.setCell (World.setCell (World.setCell (World.setCell w1 ⟨wS.heap.size+2,0,none⟩ (.slice none 0 0)) ⟨wS.heap.size+2,1,none⟩ (.int .i64 0)) ⟨wS.heap.size+2,2,none⟩ (.slice none 0 0)) ⟨wS.heap.size+2,3,none⟩ (.slice none 0 0)) ⟨wS.heap.size+2,4,none⟩ (.int .i64 0)) ⟨wS.heap.size+2,5,none⟩ (.int .i64 0)):=by (repeat' with_reducible first | exact ExtBut.refl _ _ | refine ExtBut.dr ?_ | refine ExtBut.sc ?_ ?_ | fail) <;> dsimp only <;> omega
  refine bodyPost_ret (v := .tuple #[.agg #[.slice none 0 0,.int .i64 0,.slice none 0 0,.slice none 0 0,.int .i64 0,.int .i64 0],.slice none 0 0,.int .u8 0,.int .i64 8]) (by simp [results,Tryz.f9,go_sem,bR_0,bR_1,bR_2,bR_3,bR_4,bR_5]) rfl ?_
  have hFe:=ExtBut.ext hF1 hXe (fun b h=>h.1)
  exact ⟨_,_,rfl,FrMon.zero _ _,Fq.of_all Cls.nil,hFe⟩
 rw [monErr_of hok]
 have hMok:=MonOk.of hok;have hcl:=Lib.hid hMok.small
 obtain ⟨⟨ll,un,er⟩,hld⟩ : ∃ z,loadR m.mem ⟨pa,po,pt⟩ n=z:=⟨_,rfl⟩
 have hldh:=Lib.hid hld;have hokh:=Lib.hid hok;have hMokh:=Lib.hid hMok
 clear hok hMok hld
 obtain ⟨bM_0,bM_1,bM_2,bM_3,bM_4,bM_5,bM_l⟩:=bM.c6
 obtain ⟨bP_0,bP_1,bP_2,bP_l⟩:=bP.c3
 go_wp2_with fail
 clear bM_0 bM_1 bM_2 bM_3 bM_4 bM_5 bM_l bP_0 bP_1 bP_2 bP_l
 have hXl1s:=Lib.hid (by have:=bR.lt;omega : wS.heap.size+3≤w1.heap.size)
 refine (cells_LoadAll (m:=m.mem) ⟨pa,po,pt⟩ n (hA.out.ext hF1) hn.out).mono ?_
 rintro e w2 ⟨lv,rfl,hOl,hE2⟩
 replace bM:=bM.ext hE2
 replace bP:=bP.ext hE2
 replace bR:=bR.ext hE2
 have hF2:=Ext.trans hF1 hE2
 rw [hldh.out] at hOl ⊢
 dsimp only at hOl ⊢
 obtain ⟨la,lc,rfl,-⟩:=hOl.sl.slice_form
 have hlf:=Lib.hid ((Own.fs hOl).mono (S':=fun b=>wS.heap.size+3≤b) (fun b e _=>by have h1:=(hOl.lt e).1;have h2:=hXl1s.out;omega))
 clear hOl
 have hXl1:=Lib.hid (ExtBut.refl (fun b=>wS.heap.size≤b∧b < wS.heap.size+3) w2)
 by_cases he : er=0
 rotate_left
 ·skip
  have q1 : (er != 0)=true:=by simpa using he
  have hres:=Lib.hid (loadM_err (p:=⟨pa,po,pt⟩) hokh.out hldh.out (.inl he))
  clear he
  obtain ⟨bM_0,bM_1,bM_2,bM_3,bM_4,bM_5,bM_l⟩:=bM.c6
  have bR_0 : World.cell? w2 ⟨wS.heap.size+2,0,none⟩=some (.slice none 0 0):=bR.cell 0
  have bR_1 : World.cell? w2 ⟨wS.heap.size+2,1,none⟩=some (.int .i64 0):=bR.cell 1
  have bR_2 : World.cell? w2 ⟨wS.heap.size+2,2,none⟩=some (.slice none 0 0):=bR.cell 2
  have bR_3 : World.cell? w2 ⟨wS.heap.size+2,3,none⟩=some (.slice none 0 0):=bR.cell 3
  have bR_4 : World.cell? w2 ⟨wS.heap.size+2,4,none⟩=some (.int .i64 0):=bR.cell 4
  have bR_5 : World.cell? w2 ⟨wS.heap.size+2,5,none⟩=some (.int .i64 0):=bR.cell 5
  have bR_f0 : World.frozen? w2 ⟨wS.heap.size+2,0,none⟩=false:=bR.frozen 0
  have bR_f1 : World.frozen? w2 ⟨wS.heap.size+2,1,none⟩=false:=bR.frozen 1
  have bR_f2 : World.frozen? w2 ⟨wS.heap.size+2,2,none⟩=false:=bR.frozen 2
  have bR_f3 : World.frozen? w2 ⟨wS.heap.size+2,3,none⟩=false:=bR.frozen 3
  have bR_f4 : World.frozen? w2 ⟨wS.heap.size+2,4,none⟩=false:=bR.frozen 4
  have bR_f5 : World.frozen? w2 ⟨wS.heap.size+2,5,none⟩=false:=bR.frozen 5
  have bR_l:=bR.lt
  go_wp2
  rw [hres.out]
  have hXe : ExtBut (fun b=>wS.heap.size≤b∧b < wS.heap.size+3) w2 (World.setCell (World.setCell (World.setCell (World.setCell (World.setCell (World.setCell w2 ⟨wS.heap.size+2,0,none⟩ (.slice none 0 0)) ⟨wS.heap.size+2,1,none⟩ (.int .i64 0)) ⟨wS.heap.size+2,2,none⟩ (.slice none 0 0)) ⟨wS.heap.size+2,3,none⟩ (.slice none 0 0)) ⟨wS.heap.size+2,4,none⟩ (.int .i64 0)) ⟨wS.heap.size+2,5,none⟩ (.int .i64 0)):=by (repeat' with_reducible first | exact ExtBut.refl _ _ | refine ExtBut.dr ?_ | refine ExtBut.sc ?_ ?_ | fail) <;> dsimp only <;> omega
  refine bodyPost_ret (v := .tuple #[.agg #[.slice none 0 0,.int .i64 0,.slice none 0 0,.slice none 0 0,.int .i64 0,.int .i64 0],.slice none 0 0,.int .u8 un,.int .i64 er]) (by simp [results,Tryz.f9,go_sem,bR_0,bR_1,bR_2,bR_3,bR_4,bR_5]) rfl ?_
  have hFe:=ExtBut.ext hF2 hXe (fun b h=>h.1)
  have hXl1e:=ExtBut.trans hXl1.out hXe
  exact ⟨_,_,rfl,FrMon.zero _ _,Fq.of_all Cls.nil,hFe⟩
 subst he
 by_cases hu : un=3
 ·skip
  have hres:=Lib.hid (loadM_err (p:=⟨pa,po,pt⟩) hokh.out hldh.out (.inr hu))
  subst hu
  obtain ⟨bM_0,bM_1,bM_2,bM_3,bM_4,bM_5,bM_l⟩:=bM.c6
  have bR_0 : World.cell? w2 ⟨wS.heap.size+2,0,none⟩=some (.slice none 0 0):=bR.cell 0
  have bR_1 : World.cell? w2 ⟨wS.heap.size+2,1,none⟩=some (.int .i64 0):=bR.cell 1
  have bR_2 : World.cell? w2 ⟨wS.heap.size+2,2,none⟩=some (.slice none 0 0):=bR.cell 2
  have bR_3 : World.cell? w2 ⟨wS.heap.size+2,3,none⟩=some (.slice none 0 0):=bR.cell 3
  have bR_4 : World.cell? w2 ⟨wS.heap.size+2,4,none⟩=some (.int .i64 0):=bR.cell 4
  have bR_5 : World.cell? w2 ⟨wS.heap.size+2,5,none⟩=some (.int .i64 0):=bR.cell 5
  have bR_f0 : World.frozen? w2 ⟨wS.heap.size+2,0,none⟩=false:=bR.frozen 0
  have bR_f1 : World.frozen? w2 ⟨wS.heap.size+2,1,none⟩=false:=bR.frozen 1
  have bR_f2 : World.frozen? w2 ⟨wS.heap.size+2,2,none⟩=false:=bR.frozen 2
  have bR_f3 : World.frozen? w2 ⟨wS.heap.size+2,3,none⟩=false:=bR.frozen 3
  have bR_f4 : World.frozen? w2 ⟨wS.heap.size+2,4,none⟩=false:=bR.frozen 4
  have bR_f5 : World.frozen? w2 ⟨wS.heap.size+2,5,none⟩=false:=bR.frozen 5
  have bR_l:=bR.lt
  go_wp2
  rw [hres.out]
  have hXe : ExtBut (fun b=>wS.heap.size≤b∧b < wS.heap.size+3) w2 (World.setCell (World.setCell (World.setCell (World.setCell (World.setCell (World.setCell w2 ⟨wS.heap.size+2,0,none⟩ (.slice none 0 0)) ⟨wS.heap.size+2,1,none⟩ (.int .i64 0)) ⟨wS.heap.size+2,2,none⟩ (.slice none 0 0)) ⟨wS.heap.size+2,3,none⟩ (.slice none 0 0)) ⟨wS.heap.size+2,4,none⟩ (.int .i64 0)) ⟨wS.heap.size+2,5,none⟩ (.int .i64 0)):=by (repeat' with_reducible first | exact ExtBut.refl _ _ | refine ExtBut.dr ?_ | refine ExtBut.sc ?_ ?_ | fail) <;> dsimp only <;> omega
  refine bodyPost_ret (v := .tuple #[.agg #[.slice none 0 0,.int .i64 0,.slice none 0 0,.slice none 0 0,.int .i64 0,.int .i64 0],.slice none 0 0,.int .u8 3,.int .i64 0]) (by simp [results,Tryz.f9,go_sem,bR_0,bR_1,bR_2,bR_3,bR_4,bR_5]) rfl ?_
  have hFe:=ExtBut.ext hF2 hXe (fun b h=>h.1)
  have hXl1e:=ExtBut.trans hXl1.out hXe
  exact ⟨_,_,rfl,FrMon.zero _ _,Fq.of_all Cls.nil,hFe⟩
 have q2 : (un == 3)=false:=beq_eq_false_iff_ne.2 hu
 obtain ⟨i,al,hat,hal,-⟩ : ∃ i a,atNum m.mem.al pa=some i∧m.mem.al[i]? = some a∧True:=by
  rcases load_ways hldh.out with h | h | ⟨-,-,i,a,h1,h2,-⟩
  ·exact absurd rfl h.1
  ·exact absurd h.2.1 hu
  ·exact ⟨i,a,h1,h2,trivial⟩
 have hun : un=0∨un=4:=by
  rcases load_ways hldh.out with h | h | ⟨-,h,-⟩
  ·exact absurd rfl h.1
  ·exact absurd h.2.1 hu
  ·exact h
 have hil:=(List.getElem?_eq_some_iff.1 hal).1
 have hMok:=hMokh.out
 obtain ⟨st,al',hst,-,hrow⟩:=hMok.stk hil
 obtain ⟨sn,scs⟩:=st
 obtain ⟨⟨⟨xn,xcs⟩,why,e4⟩,hd⟩ : ∃ z,use33 ⟨sn,scs⟩ po n pt false m.run=z:=⟨_,rfl⟩
 have hi2 : i < m.stks.length:=(List.getElem?_eq_some_iff.1 hst).1
 have hi0 : (0 : Int)≤(i : Int):=by omega
 have hi1 : (i : Int) < (m.stks.length : Int):=by omega
 obtain ⟨kb,ko,ks,rfl,hkb,k0,k1,hks⟩:=hK.out.cell hst
 have hv:=hks.form
 obtain ⟨sa',sc',rfl,-⟩:=hv
 dsimp only at k0 k1
 replace hks:=Lib.hid hks
 have hdh:=Lib.hid hd
 have hres:=Lib.hid (loadM_live (p:=⟨pa,po,pt⟩) hokh.out hldh.out hu hat hst hd)
 have hsth:=Lib.hid hst;have hatm:=Lib.hid hat;replace hun:=Lib.hid hun
 clear hu hat hal hst hrow hd hil hkb hMok
 obtain ⟨bM_0,bM_1,bM_2,bM_3,bM_4,bM_5,bM_l⟩:=bM.c6
 obtain ⟨bP_0,bP_1,bP_2,bP_l⟩:=bP.c3
 go_wp2_with fail
 clear bM_0 bM_1 bM_2 bM_3 bM_4 bM_5 bM_l bP_0 bP_1 bP_2 bP_l
 refine (monitor_at pa hMokh.out (hK.out.ext hF2)).mono ?_
 rintro e w3 ⟨rfl,hE3⟩
 replace bM:=bM.ext hE3
 replace bP:=bP.ext hE3
 replace bR:=bR.ext hE3
 replace hXl1:=Lib.hid (ExtBut.trans hXl1.out (ExtBut.of_ext hE3))
 have hF3:=Ext.trans hF2 hE3
 rw [hatm.out]
 dsimp only [ixK]
 obtain ⟨bM_0,bM_1,bM_2,bM_3,bM_4,bM_5,bM_l⟩:=bM.c6
 obtain ⟨bP_0,bP_1,bP_2,bP_l⟩:=bP.c3
 go_upto_region 8 with fail
 clear bM_0 bM_1 bM_2 bM_3 bM_4 bM_5 bM_l bP_0 bP_1 bP_2 bP_l
 have bMc2 : World.cell? w3 ⟨wS.heap.size,2,none⟩=some (.slice (some ⟨kb,ko,none⟩) m.stks.length kc):=bM.cell 2
 have bMc3 : World.cell? w3 ⟨wS.heap.size,3,none⟩=some (.slice ra m.run.length rc):=bM.cell 3
 have bPc1 : World.cell? w3 ⟨wS.heap.size+1,1,none⟩=some (.int .i64 po):=bP.cell 1
 have bPc2 : World.cell? w3 ⟨wS.heap.size+1,2,none⟩=some (.int .i64 pt):=bP.cell 2
 have r0:=Ext.cell hF3 k0;have r1:=Ext.cell hF3 k1
 have hKc:=Lib.hid (hks.out.ext hF3);have hRc:=Lib.hid (hR.out.ext hF3)
 refine wp_region_rel (R:=(BxX w3.drew.heap.size 68 2 (X35 w3.drew.heap.size ⟨xn,xcs⟩))) BxX.refl (fun _ _ _=>BxX.trans X35_bxr) [PrR.eq _ (.pointer (some ⟨wS.heap.size,2,none⟩)),PrR.eq _ (.slice (some ⟨kb,ko,none⟩) m.stks.length kc),PrR.eq _ (.int .i64 (i : Int)),PrR.eq _ (.pointer (some ⟨kb,ko+i * 2,none⟩)),PrR.eq _ (.agg #[.int .i64 sn,.slice sa' scs.length sc']),PrR.eq _ (.pointer (some ⟨wS.heap.size+1,1,none⟩)),PrR.eq _ (.int .i64 po),PrR.eq _ (.int .i64 n),PrR.eq _ (.pointer (some ⟨wS.heap.size+1,2,none⟩)),PrR.eq _ (.int .i64 pt),PrR.eq _ (.pointer (some ⟨wS.heap.size,3,none⟩)),PrR.eq _ (.slice ra m.run.length rc),(PrRK w3.drew.heap.size ⟨xn,xcs⟩ (fun a' c' => .tuple #[.agg #[.int .i64 xn,.slice a' xcs.length c'],.int .u8 why,.int .i64 e4])),(PrRK w3.drew.heap.size ⟨xn,xcs⟩ (fun a' c' => .tuple #[.agg #[.int .i64 xn,.slice a' xcs.length c'],.int .u8 why,.int .i64 e4])),(PrRK w3.drew.heap.size ⟨xn,xcs⟩ (fun a' c' => .agg #[.int .i64 xn,.slice a' xcs.length c'])),PrR.eq _ (.int .u8 why),PrR.eq _ (.int .i64 e4),(PrR.up (PrRB w3.drew.heap.size 68 2)),(PrRT w3.drew.heap.size ⟨xn,xcs⟩),PrR.eq _ (.int .u8 why),PrR.eq _ (.int .i64 e4)] (by kernel_rfl) (by kernel_rfl) ?_ ?_
 ·refine ⟨?_,?_,?_,?_,?_,?_,?_,?_,?_,?_,?_,?_,?_,?_,?_,?_,?_,?_,?_,?_,?_,trivial⟩
  ·intro a w hE hd ho
   refine .inl ⟨rfl,?_⟩
   intro Kq hKq
   have hF : Ext w3 w:=Ext.trans ((Ext.refl _).drew) (BxX.to_ext hE (Nat.le_refl _))
   have e3 : a.eval (.tmp 3) = .pointer (some ⟨wS.heap.size,0,none⟩):=ho 3 (by kernel_rfl)
   rw [eval_tmp] at e3
   clear bMc2 bMc3 bPc1 bPc2 r0 r1
   clear hd ho
   replace hKq:=Lib.hid hKq
   go_simp
   exact hKq.out _ _ rfl (BxX.refl _)
  ·intro a w hE hd ho
   refine .inl ⟨rfl,?_⟩
   intro Kq hKq
   have hF : Ext w3 w:=Ext.trans ((Ext.refl _).drew) (BxX.to_ext hE (Nat.le_refl _))
   have e47 : a.eval (.tmp 47) = .pointer (some ⟨wS.heap.size,2,none⟩):=hd 0 (by kernel_rfl)
   rw [eval_tmp] at e47
   have bMc2w:=Ext.cell hF bMc2
   clear bMc2 bMc3 bPc1 bPc2 r0 r1
   clear hd ho
   replace hKq:=Lib.hid hKq
   go_simp
   exact hKq.out _ _ rfl (BxX.refl _)
  ·intro a w hE hd ho
   refine .inl ⟨rfl,?_⟩
   intro Kq hKq
   have hF : Ext w3 w:=Ext.trans ((Ext.refl _).drew) (BxX.to_ext hE (Nat.le_refl _))
   have e14 : a.eval (.tmp 14) = .int .i64 (i : Int):=ho 14 (by kernel_rfl)
   rw [eval_tmp] at e14
   clear bMc2 bMc3 bPc1 bPc2 r0 r1
   clear hd ho
   replace hKq:=Lib.hid hKq
   go_simp
   exact hKq.out _ _ rfl (BxX.refl _)
  ·intro a w hE hd ho
   refine .inl ⟨rfl,?_⟩
   intro Kq hKq
   have hF : Ext w3 w:=Ext.trans ((Ext.refl _).drew) (BxX.to_ext hE (Nat.le_refl _))
   have e48 : a.eval (.tmp 48) = .slice (some ⟨kb,ko,none⟩) m.stks.length kc:=hd 1 (by kernel_rfl)
   rw [eval_tmp] at e48
   have e49 : a.eval (.tmp 49) = .int .i64 (i : Int):=hd 2 (by kernel_rfl)
   rw [eval_tmp] at e49
   clear bMc2 bMc3 bPc1 bPc2 r0 r1
   clear hd ho
   replace hKq:=Lib.hid hKq
   go_simp
   exact hKq.out _ _ rfl (BxX.refl _)
  ·intro a w hE hd ho
   refine .inl ⟨rfl,?_⟩
   intro Kq hKq
   have hF : Ext w3 w:=Ext.trans ((Ext.refl _).drew) (BxX.to_ext hE (Nat.le_refl _))
   have e50 : a.eval (.tmp 50) = .pointer (some ⟨kb,ko+i * 2,none⟩):=hd 3 (by kernel_rfl)
   rw [eval_tmp] at e50
   have r0w:=Ext.cell hF r0
   have r1w:=Ext.cell hF r1
   clear bMc2 bMc3 bPc1 bPc2 r0 r1
   clear hd ho
   replace hKq:=Lib.hid hKq
   go_simp
   exact hKq.out _ _ rfl (BxX.refl _)
  ·intro a w hE hd ho
   refine .inl ⟨rfl,?_⟩
   intro Kq hKq
   have hF : Ext w3 w:=Ext.trans ((Ext.refl _).drew) (BxX.to_ext hE (Nat.le_refl _))
   have e4 : a.eval (.tmp 4) = .pointer (some ⟨wS.heap.size+1,0,none⟩):=ho 4 (by kernel_rfl)
   rw [eval_tmp] at e4
   clear bMc2 bMc3 bPc1 bPc2 r0 r1
   clear hd ho
   replace hKq:=Lib.hid hKq
   go_simp
   exact hKq.out _ _ rfl (BxX.refl _)
  ·intro a w hE hd ho
   refine .inl ⟨rfl,?_⟩
   intro Kq hKq
   have hF : Ext w3 w:=Ext.trans ((Ext.refl _).drew) (BxX.to_ext hE (Nat.le_refl _))
   have e52 : a.eval (.tmp 52) = .pointer (some ⟨wS.heap.size+1,1,none⟩):=hd 5 (by kernel_rfl)
   rw [eval_tmp] at e52
   have bPc1w:=Ext.cell hF bPc1
   clear bMc2 bMc3 bPc1 bPc2 r0 r1
   clear hd ho
   replace hKq:=Lib.hid hKq
   go_simp
   exact hKq.out _ _ rfl (BxX.refl _)
  ·intro a w hE hd ho
   refine .inl ⟨rfl,?_⟩
   intro Kq hKq
   have hF : Ext w3 w:=Ext.trans ((Ext.refl _).drew) (BxX.to_ext hE (Nat.le_refl _))
   have e2 : a.eval (.tmp 2) = .int .i64 n:=ho 2 (by kernel_rfl)
   rw [eval_tmp] at e2
   clear bMc2 bMc3 bPc1 bPc2 r0 r1
   clear hd ho
   replace hKq:=Lib.hid hKq
   go_simp
   exact hKq.out _ _ rfl (BxX.refl _)
  ·intro a w hE hd ho
   refine .inl ⟨rfl,?_⟩
   intro Kq hKq
   have hF : Ext w3 w:=Ext.trans ((Ext.refl _).drew) (BxX.to_ext hE (Nat.le_refl _))
   have e4 : a.eval (.tmp 4) = .pointer (some ⟨wS.heap.size+1,0,none⟩):=ho 4 (by kernel_rfl)
   rw [eval_tmp] at e4
   clear bMc2 bMc3 bPc1 bPc2 r0 r1
   clear hd ho
   replace hKq:=Lib.hid hKq
   go_simp
   exact hKq.out _ _ rfl (BxX.refl _)
  ·intro a w hE hd ho
   refine .inl ⟨rfl,?_⟩
   intro Kq hKq
   have hF : Ext w3 w:=Ext.trans ((Ext.refl _).drew) (BxX.to_ext hE (Nat.le_refl _))
   have e55 : a.eval (.tmp 55) = .pointer (some ⟨wS.heap.size+1,2,none⟩):=hd 8 (by kernel_rfl)
   rw [eval_tmp] at e55
   have bPc2w:=Ext.cell hF bPc2
   clear bMc2 bMc3 bPc1 bPc2 r0 r1
   clear hd ho
   replace hKq:=Lib.hid hKq
   go_simp
   exact hKq.out _ _ rfl (BxX.refl _)
  ·intro a w hE hd ho
   refine .inl ⟨rfl,?_⟩
   intro Kq hKq
   have hF : Ext w3 w:=Ext.trans ((Ext.refl _).drew) (BxX.to_ext hE (Nat.le_refl _))
   have e3 : a.eval (.tmp 3) = .pointer (some ⟨wS.heap.size,0,none⟩):=ho 3 (by kernel_rfl)
   rw [eval_tmp] at e3
   clear bMc2 bMc3 bPc1 bPc2 r0 r1
   clear hd ho
   replace hKq:=Lib.hid hKq
   go_simp
   exact hKq.out _ _ rfl (BxX.refl _)
  ·intro a w hE hd ho
   refine .inl ⟨rfl,?_⟩
   intro Kq hKq
   have hF : Ext w3 w:=Ext.trans ((Ext.refl _).drew) (BxX.to_ext hE (Nat.le_refl _))
   have e57 : a.eval (.tmp 57) = .pointer (some ⟨wS.heap.size,3,none⟩):=hd 10 (by kernel_rfl)
   rw [eval_tmp] at e57
   have bMc3w:=Ext.cell hF bMc3
   clear bMc2 bMc3 bPc1 bPc2 r0 r1
   clear hd ho
   replace hKq:=Lib.hid hKq
   go_simp
   exact hKq.out _ _ rfl (BxX.refl _)
  ·intro a w hE hd ho
   refine .inl ⟨rfl,?_⟩
   intro Kq hKq
   have hF : Ext w3 w:=Ext.trans ((Ext.refl _).drew) (BxX.to_ext hE (Nat.le_refl _))
   have e51 : a.eval (.tmp 51) = .agg #[.int .i64 sn,.slice sa' scs.length sc']:=hd 4 (by kernel_rfl)
   rw [eval_tmp] at e51
   have e53 : a.eval (.tmp 53) = .int .i64 po:=hd 6 (by kernel_rfl)
   rw [eval_tmp] at e53
   have e54 : a.eval (.tmp 54) = .int .i64 n:=hd 7 (by kernel_rfl)
   rw [eval_tmp] at e54
   have e56 : a.eval (.tmp 56) = .int .i64 pt:=hd 9 (by kernel_rfl)
   rw [eval_tmp] at e56
   have e58 : a.eval (.tmp 58) = .slice ra m.run.length rc:=hd 11 (by kernel_rfl)
   rw [eval_tmp] at e58
   clear bMc2 bMc3 bPc1 bPc2 r0 r1
   clear hd ho
   replace hKq:=Lib.hid hKq
   go_simp
   refine (stacks_Read (num:=sn) (a:=po) (n:=n) pt (hKc.out.ext hF) (hRc.out.ext hF)).mono ?_
   rintro e wz ⟨v1,vs1,rfl,hO1,hZ⟩
   rw [hdh.out] at hO1 ⊢
   dsimp only at hO1 ⊢
   obtain ⟨a1,c1,rfl,-⟩:=hO1.outer.sl.slice_form
   go_simp
   exact hKq.out _ _ ⟨_,_,_,rfl,OwnS.mono hO1 hF.size⟩ (BxX.of_ext hZ)
  ·intro a w hE hd ho
   refine .inl ⟨rfl,?_⟩
   intro Kq hKq
   have hF : Ext w3 w:=Ext.trans ((Ext.refl _).drew) (BxX.to_ext hE (Nat.le_refl _))
   obtain ⟨xa59,xc59,xu59,e59,g59⟩ : ∃ a' c' us,a.eval (.tmp 59) = .tuple #[.agg #[.int .i64 xn,.slice a' xcs.length c'],.int .u8 why,.int .i64 e4]∧OwnS w w3.drew.heap.size (.slice a' xcs.length c') us xcs:=hd 12 (by kernel_rfl)
   rw [eval_tmp] at e59
   clear bMc2 bMc3 bPc1 bPc2 r0 r1
   clear hd ho
   replace hKq:=Lib.hid hKq
   go_simp
   exact hKq.out _ _ ⟨_,_,_,rfl,g59⟩ (BxX.refl _)
  ·intro a w hE hd ho
   refine .inl ⟨rfl,?_⟩
   intro Kq hKq
   have hF : Ext w3 w:=Ext.trans ((Ext.refl _).drew) (BxX.to_ext hE (Nat.le_refl _))
   obtain ⟨xa46,xc46,xu46,e46,g46⟩ : ∃ a' c' us,a.eval (.tmp 46) = .tuple #[.agg #[.int .i64 xn,.slice a' xcs.length c'],.int .u8 why,.int .i64 e4]∧OwnS w w3.drew.heap.size (.slice a' xcs.length c') us xcs:=hd 13 (by kernel_rfl)
   rw [eval_tmp] at e46
   clear bMc2 bMc3 bPc1 bPc2 r0 r1
   clear hd ho
   replace hKq:=Lib.hid hKq
   go_simp
   exact hKq.out _ _ ⟨_,_,_,rfl,g46⟩ (BxX.refl _)
  ·intro a w hE hd ho
   refine .inl ⟨rfl,?_⟩
   intro Kq hKq
   have hF : Ext w3 w:=Ext.trans ((Ext.refl _).drew) (BxX.to_ext hE (Nat.le_refl _))
   obtain ⟨xa46,xc46,xu46,e46,g46⟩ : ∃ a' c' us,a.eval (.tmp 46) = .tuple #[.agg #[.int .i64 xn,.slice a' xcs.length c'],.int .u8 why,.int .i64 e4]∧OwnS w w3.drew.heap.size (.slice a' xcs.length c') us xcs:=hd 13 (by kernel_rfl)
   rw [eval_tmp] at e46
   clear bMc2 bMc3 bPc1 bPc2 r0 r1
   clear hd ho
   replace hKq:=Lib.hid hKq
   go_simp
   exact hKq.out _ _ rfl (BxX.refl _)
  ·intro a w hE hd ho
   refine .inl ⟨rfl,?_⟩
   intro Kq hKq
   have hF : Ext w3 w:=Ext.trans ((Ext.refl _).drew) (BxX.to_ext hE (Nat.le_refl _))
   obtain ⟨xa46,xc46,xu46,e46,g46⟩ : ∃ a' c' us,a.eval (.tmp 46) = .tuple #[.agg #[.int .i64 xn,.slice a' xcs.length c'],.int .u8 why,.int .i64 e4]∧OwnS w w3.drew.heap.size (.slice a' xcs.length c') us xcs:=hd 13 (by kernel_rfl)
   rw [eval_tmp] at e46
   clear bMc2 bMc3 bPc1 bPc2 r0 r1
   clear hd ho
   replace hKq:=Lib.hid hKq
   go_simp
   exact hKq.out _ _ rfl (BxX.refl _)
  ·intro a w hE hd ho
   refine .inl ⟨rfl,?_⟩
   intro Kq hKq
   have hF : Ext w3 w:=Ext.trans ((Ext.refl _).drew) (BxX.to_ext hE (Nat.le_refl _))
   clear bMc2 bMc3 bPc1 bPc2 r0 r1
   clear hd ho
   replace hKq:=Lib.hid hKq
   go_simp
   exact hKq.out _ _ ⟨_,rfl,BxX.size hE,#[.int .i64 0,.slice none 0 0],rfl,Box.new _ _ _⟩ (BxX.of_ext ((Ext.refl _).alloc _))
  ·intro a w hE hd ho
   refine .inl ⟨rfl,?_⟩
   intro Kq hKq
   have hF : Ext w3 w:=Ext.trans ((Ext.refl _).drew) (BxX.to_ext hE (Nat.le_refl _))
   obtain ⟨bq,eq,hNb,vs0,hv0,hbx⟩ : ∃ b,a.eval (.tmp 15) = .pointer (some ⟨b,0,none⟩)∧w3.drew.heap.size≤b∧BoxT 68 2 w b:=hd 17 (by kernel_rfl)
   rw [eval_tmp] at eq
   have hBT : BoxT 68 2 w bq:=⟨vs0,hv0,hbx⟩
   obtain ⟨u0,u1,rfl⟩ : ∃ u0 u1,vs0=#[u0,u1]:=by match vs0,hv0 with | ⟨[u0,u1]⟩,_=>exact ⟨u0,u1,rfl⟩
   have bc0 : World.cell? w ⟨bq,0,none⟩=some u0:=hbx.cell 0
   have bf0:=hbx.frozen 0
   have bc1 : World.cell? w ⟨bq,1,none⟩=some u1:=hbx.cell 1
   have bf1:=hbx.frozen 1
   have hbl:=hbx.lt
   replace hBT:=Lib.hid hBT
   obtain ⟨xa60,xc60,xu60,e60,g60⟩ : ∃ a' c' us,a.eval (.tmp 60) = .agg #[.int .i64 xn,.slice a' xcs.length c']∧OwnS w w3.drew.heap.size (.slice a' xcs.length c') us xcs:=hd 14 (by kernel_rfl)
   rw [eval_tmp] at e60
   clear bMc2 bMc3 bPc1 bPc2 r0 r1
   have eq0:=Lib.hid ((eval_tmp a 15).trans eq)
   clear hd ho
   replace hKq:=Lib.hid hKq
   go_simp
   have hEb : ExtBut (· = bq) w (World.setCell (World.setCell w ⟨bq,0,none⟩ (.int .i64 xn)) ⟨bq,1,none⟩ (.slice xa60 xcs.length xc60)):=(ExtBut.setCell w ⟨bq,0,none⟩ (.int .i64 xn)).trans (ExtBut.setCell (World.setCell w ⟨bq,0,none⟩ (.int .i64 xn)) ⟨bq,1,none⟩ (.slice xa60 xcs.length xc60))
   have hBx : Box (World.setCell (World.setCell w ⟨bq,0,none⟩ (.int .i64 xn)) ⟨bq,1,none⟩ (.slice xa60 xcs.length xc60)) bq 68 #[.int .i64 xn,.slice xa60 xcs.length xc60]:=(hbx.set 0 _).set 1 _
   have hB0 : BxR w3.drew.heap.size 68 2 w (World.setCell w ⟨bq,0,none⟩ (.int .i64 xn)):=BxR.set hBT.out hNb 0 _
   have hB1 : BxR w3.drew.heap.size 68 2 w (World.setCell (World.setCell w ⟨bq,0,none⟩ (.int .i64 xn)) ⟨bq,1,none⟩ (.slice xa60 xcs.length xc60)):=hB0.trans (BxR.set (hB0.boxT hBT.out) hNb 1 _)
   have hOS:=g60.bxr hB1
   have hRR : (BxX w3.drew.heap.size 68 2 (X35 w3.drew.heap.size ⟨xn,xcs⟩)) w (World.setCell (World.setCell w ⟨bq,0,none⟩ (.int .i64 xn)) ⟨bq,1,none⟩ (.slice xa60 xcs.length xc60)):=BxX.but hEb hBT.out hNb rfl hBx ⟨_,_,_,rfl,hOS⟩
   exact hKq.out undef (World.setCell (World.setCell w ⟨bq,0,none⟩ (.int .i64 xn)) ⟨bq,1,none⟩ (.slice xa60 xcs.length xc60)) ⟨bq,_,_,_,eq0.out,hNb,hBx,hOS⟩ hRR
  ·intro a w hE hd ho
   refine .inl ⟨rfl,?_⟩
   intro Kq hKq
   have hF : Ext w3 w:=Ext.trans ((Ext.refl _).drew) (BxX.to_ext hE (Nat.le_refl _))
   have e61 : a.eval (.tmp 61) = .int .u8 why:=hd 15 (by kernel_rfl)
   rw [eval_tmp] at e61
   clear bMc2 bMc3 bPc1 bPc2 r0 r1
   clear hd ho
   replace hKq:=Lib.hid hKq
   go_simp
   exact hKq.out _ _ rfl (BxX.refl _)
  ·intro a w hE hd ho
   refine .inl ⟨rfl,?_⟩
   intro Kq hKq
   have hF : Ext w3 w:=Ext.trans ((Ext.refl _).drew) (BxX.to_ext hE (Nat.le_refl _))
   have e62 : a.eval (.tmp 62) = .int .i64 e4:=hd 16 (by kernel_rfl)
   rw [eval_tmp] at e62
   clear bMc2 bMc3 bPc1 bPc2 r0 r1
   clear hd ho
   replace hKq:=Lib.hid hKq
   go_simp
   exact hKq.out _ _ rfl (BxX.refl _)
 ·intro vals Ac wq hAc hE hv hsv
  have hF : Ext w3 wq:=Ext.trans ((Ext.refl _).drew) (BxX.to_ext hE (Nat.le_refl _))
  obtain ⟨BX,xa,xc,xu,eb,hNb,bX,hOx⟩ : ∃ b a c us,vals 18 = .pointer (some ⟨b,0,none⟩)∧w3.drew.heap.size≤b∧Box wq b 68 #[.int .i64 xn,.slice a xcs.length c]∧OwnS wq w3.drew.heap.size (.slice a xcs.length c) us xcs:=hv 18 (by decide)
  have e1 : vals 17 = .pointer (some ⟨BX,0,none⟩):=((hsv 17).trans (hsv 18).symm).trans eb
  have e2 : vals 19 = .int .u8 why:=hv 19 (by decide)
  have e3 : vals 20 = .int .i64 e4:=hv 20 (by decide)
  clear hv hsv hE eb bMc2 bMc3 bPc1 bPc2 r0 r1
  subst hAc
  simp only [putAll]
  go_simp
  try rw [e1,e2,e3]
  clear e1 e2 e3
  have szbX:=Lib.hid (by have h3 : w3.heap.size≤BX:=hNb;have h4:=bR.lt;omega : wS.heap.size+3≤BX)
  have hXs0:=Lib.hid (by have h4:=bR.lt;omega : wS.heap.size+3≤w3.heap.size)
  replace bM:=bM.ext hF
  replace bP:=bP.ext hF
  replace bR:=bR.ext hF
  replace hXl1:=Lib.hid (ExtBut.trans hXl1.out (ExtBut.of_ext hF))
  have hF4:=Ext.trans hF3 hF
  have hxf:=Lib.hid ((OwnS.fs hOx).mono (S':=fun b=>wS.heap.size+3≤b∧b < wq.heap.size) (fun b h1 hl=>⟨by have h2 : w3.heap.size≤b:=h1;have h3:=hXs0.out;omega,hl⟩))
  clear hNb hOx hKc hRc
  have hXx:=Lib.hid (ExtBut.refl (fun b=>wS.heap.size≤b∧b < wS.heap.size+3) wq)
  have hXl:=Lib.hid bX.lt
  by_cases hw : why=0
  rotate_left
  ·skip
   have q3 : (why == 0)=false:=beq_eq_false_iff_ne.2 hw;have q4 : (why != 0)=true:=by simpa using hw
   have hres1:=hres.out;rw [if_neg hw] at hres1;replace hres1:=Lib.hid hres1
   clear hw
   obtain ⟨bM_0,bM_1,bM_2,bM_3,bM_4,bM_5,bM_l⟩:=bM.c6
   have bR_0 : World.cell? wq ⟨wS.heap.size+2,0,none⟩=some (.slice none 0 0):=bR.cell 0
   have bR_1 : World.cell? wq ⟨wS.heap.size+2,1,none⟩=some (.int .i64 0):=bR.cell 1
   have bR_2 : World.cell? wq ⟨wS.heap.size+2,2,none⟩=some (.slice none 0 0):=bR.cell 2
   have bR_3 : World.cell? wq ⟨wS.heap.size+2,3,none⟩=some (.slice none 0 0):=bR.cell 3
   have bR_4 : World.cell? wq ⟨wS.heap.size+2,4,none⟩=some (.int .i64 0):=bR.cell 4
   have bR_5 : World.cell? wq ⟨wS.heap.size+2,5,none⟩=some (.int .i64 0):=bR.cell 5
   have bR_f0 : World.frozen? wq ⟨wS.heap.size+2,0,none⟩=false:=bR.frozen 0
   have bR_f1 : World.frozen? wq ⟨wS.heap.size+2,1,none⟩=false:=bR.frozen 1
   have bR_f2 : World.frozen? wq ⟨wS.heap.size+2,2,none⟩=false:=bR.frozen 2
   have bR_f3 : World.frozen? wq ⟨wS.heap.size+2,3,none⟩=false:=bR.frozen 3
   have bR_f4 : World.frozen? wq ⟨wS.heap.size+2,4,none⟩=false:=bR.frozen 4
   have bR_f5 : World.frozen? wq ⟨wS.heap.size+2,5,none⟩=false:=bR.frozen 5
   have bR_l:=bR.lt
   go_wp2
   rw [hres1.out]
   have hXe : ExtBut (fun b=>wS.heap.size≤b∧b < wS.heap.size+3) wq (World.setCell (World.setCell (World.setCell (World.setCell (World.setCell (World.setCell wq ⟨wS.heap.size+2,0,none⟩ (.slice none 0 0)) ⟨wS.heap.size+2,1,none⟩ (.int .i64 0)) ⟨wS.heap.size+2,2,none⟩ (.slice none 0 0)) ⟨wS.heap.size+2,3,none⟩ (.slice none 0 0)) ⟨wS.heap.size+2,4,none⟩ (.int .i64 0)) ⟨wS.heap.size+2,5,none⟩ (.int .i64 0)):=by (repeat' with_reducible first | exact ExtBut.refl _ _ | refine ExtBut.dr ?_ | refine ExtBut.sc ?_ ?_ | fail) <;> dsimp only <;> omega
   refine bodyPost_ret (v := .tuple #[.agg #[.slice none 0 0,.int .i64 0,.slice none 0 0,.slice none 0 0,.int .i64 0,.int .i64 0],.slice none 0 0,.int .u8 why,.int .i64 0]) (by simp [results,Tryz.f9,go_sem,bR_0,bR_1,bR_2,bR_3,bR_4,bR_5]) rfl ?_
   have hFe:=ExtBut.ext hF4 hXe (fun b h=>h.1)
   have hXl1e:=ExtBut.trans hXl1.out hXe
   have hXxe:=ExtBut.trans hXx.out hXe
   exact ⟨_,_,rfl,FrMon.zero _ _,Fq.of_all Cls.nil,hFe⟩
  subst hw
  have hun1:=hun.out
  rcases hun1 with hun1 | hun1
  rotate_left
  ·skip
   subst hun1
   have hres1:=hres.out;rw [if_pos rfl] at hres1;rw [if_neg (by decide)] at hres1;replace hres1:=Lib.hid hres1
   obtain ⟨bM_0,bM_1,bM_2,bM_3,bM_4,bM_5,bM_l⟩:=bM.c6
   have bR_0 : World.cell? wq ⟨wS.heap.size+2,0,none⟩=some (.slice none 0 0):=bR.cell 0
   have bR_1 : World.cell? wq ⟨wS.heap.size+2,1,none⟩=some (.int .i64 0):=bR.cell 1
   have bR_2 : World.cell? wq ⟨wS.heap.size+2,2,none⟩=some (.slice none 0 0):=bR.cell 2
   have bR_3 : World.cell? wq ⟨wS.heap.size+2,3,none⟩=some (.slice none 0 0):=bR.cell 3
   have bR_4 : World.cell? wq ⟨wS.heap.size+2,4,none⟩=some (.int .i64 0):=bR.cell 4
   have bR_5 : World.cell? wq ⟨wS.heap.size+2,5,none⟩=some (.int .i64 0):=bR.cell 5
   have bR_f0 : World.frozen? wq ⟨wS.heap.size+2,0,none⟩=false:=bR.frozen 0
   have bR_f1 : World.frozen? wq ⟨wS.heap.size+2,1,none⟩=false:=bR.frozen 1
   have bR_f2 : World.frozen? wq ⟨wS.heap.size+2,2,none⟩=false:=bR.frozen 2
   have bR_f3 : World.frozen? wq ⟨wS.heap.size+2,3,none⟩=false:=bR.frozen 3
   have bR_f4 : World.frozen? wq ⟨wS.heap.size+2,4,none⟩=false:=bR.frozen 4
   have bR_f5 : World.frozen? wq ⟨wS.heap.size+2,5,none⟩=false:=bR.frozen 5
   have bR_l:=bR.lt
   go_wp2
   rw [hres1.out]
   have hXe : ExtBut (fun b=>wS.heap.size≤b∧b < wS.heap.size+3) wq (World.setCell (World.setCell (World.setCell (World.setCell (World.setCell (World.setCell wq ⟨wS.heap.size+2,0,none⟩ (.slice none 0 0)) ⟨wS.heap.size+2,1,none⟩ (.int .i64 0)) ⟨wS.heap.size+2,2,none⟩ (.slice none 0 0)) ⟨wS.heap.size+2,3,none⟩ (.slice none 0 0)) ⟨wS.heap.size+2,4,none⟩ (.int .i64 0)) ⟨wS.heap.size+2,5,none⟩ (.int .i64 0)):=by (repeat' with_reducible first | exact ExtBut.refl _ _ | refine ExtBut.dr ?_ | refine ExtBut.sc ?_ ?_ | fail) <;> dsimp only <;> omega
   refine bodyPost_ret (v := .tuple #[.agg #[.slice none 0 0,.int .i64 0,.slice none 0 0,.slice none 0 0,.int .i64 0,.int .i64 0],.slice none 0 0,.int .u8 4,.int .i64 0]) (by simp [results,Tryz.f9,go_sem,bR_0,bR_1,bR_2,bR_3,bR_4,bR_5]) rfl ?_
   have hFe:=ExtBut.ext hF4 hXe (fun b h=>h.1)
   have hXl1e:=ExtBut.trans hXl1.out hXe
   have hXxe:=ExtBut.trans hXx.out hXe
   exact ⟨_,_,rfl,FrMon.zero _ _,Fq.of_all Cls.nil,hFe⟩
  subst hun1
  have hres1:=hres.out;rw [if_pos rfl,if_pos rfl] at hres1;replace hres1:=Lib.hid hres1;clear hres hun q2
  obtain ⟨bM_0,bM_1,bM_2,bM_3,bM_4,bM_5,bM_l⟩:=bM.c6
  go_wp2_with fail
  clear bM_0 bM_1 bM_2 bM_3 bM_4 bM_5 bM_l
  have hXcs:=Lib.hid (by have:=bR.lt;omega : wS.heap.size+3≤wq.heap.size)
  have hXl1_hXc:=Lib.hid hXl1.out.size
  have hXx_hXc:=Lib.hid hXx.out.size
  refine (monitor_clone (hA.out.ext hF4) (hK.out.ext hF4) (hR.out.ext hF4) hcl.out.1 hcl.out.2.1 hcl.out.2.2).mono ?_
  rintro e w5 ⟨c,ca,ck,cr,vs,rfl,hC,hE5⟩
  replace bM:=bM.ext hE5
  replace bP:=bP.ext hE5
  replace bR:=bR.ext hE5
  replace bX:=bX.ext hE5
  replace hXl1:=Lib.hid (ExtBut.trans hXl1.out (ExtBut.of_ext hE5))
  replace hXx:=Lib.hid (ExtBut.trans hXx.out (ExtBut.of_ext hE5))
  have hF5:=Ext.trans hF4 hE5
  have hv:=hC.al.read.form
  obtain ⟨ca,cac,rfl,-⟩:=hv
  have hv:=hC.outer.sl.slice_form
  obtain ⟨ck,ckc,rfl,-⟩:=hv
  have hv:=hC.run.read.form
  obtain ⟨cr,crc,rfl,-⟩:=hv
  replace hC:=Lib.hid hC
  have hXc:=Lib.hid (ExtBut.refl (fun b=>wS.heap.size≤b∧b < wS.heap.size+3) w5)
  have bM_0 : World.cell? w5 ⟨wS.heap.size,0,none⟩=some (.slice aa m.mem.al.length ac):=bM.cell 0
  have bM_1 : World.cell? w5 ⟨wS.heap.size,1,none⟩=some (.int .i64 m.mem.next):=bM.cell 1
  have bM_2 : World.cell? w5 ⟨wS.heap.size,2,none⟩=some (.slice (some ⟨kb,ko,none⟩) m.stks.length kc):=bM.cell 2
  have bM_3 : World.cell? w5 ⟨wS.heap.size,3,none⟩=some (.slice ra m.run.length rc):=bM.cell 3
  have bM_4 : World.cell? w5 ⟨wS.heap.size,4,none⟩=some (.int .i64 m.tag):=bM.cell 4
  have bM_5 : World.cell? w5 ⟨wS.heap.size,5,none⟩=some (.int .i64 m.call):=bM.cell 5
  have bM_f0 : World.frozen? w5 ⟨wS.heap.size,0,none⟩=false:=bM.frozen 0
  have bM_f1 : World.frozen? w5 ⟨wS.heap.size,1,none⟩=false:=bM.frozen 1
  have bM_f2 : World.frozen? w5 ⟨wS.heap.size,2,none⟩=false:=bM.frozen 2
  have bM_f3 : World.frozen? w5 ⟨wS.heap.size,3,none⟩=false:=bM.frozen 3
  have bM_f4 : World.frozen? w5 ⟨wS.heap.size,4,none⟩=false:=bM.frozen 4
  have bM_f5 : World.frozen? w5 ⟨wS.heap.size,5,none⟩=false:=bM.frozen 5
  have bM_l:=bM.lt
  go_upto_region 14 with fail
  clear bM_0 bM_1 bM_2 bM_3 bM_4 bM_5 bM_f0 bM_f1 bM_f2 bM_f3 bM_f4 bM_f5 bM_l
  have hS6 : ExtBut (fun b=>wS.heap.size≤b∧b < wS.heap.size+3) w5 (World.setCell (World.setCell (World.setCell (World.setCell (World.setCell (World.setCell w5 ⟨wS.heap.size,0,none⟩ (.slice ca m.mem.al.length cac)) ⟨wS.heap.size,1,none⟩ (.int .i64 m.mem.next)) ⟨wS.heap.size,2,none⟩ (.slice ck m.stks.length ckc)) ⟨wS.heap.size,3,none⟩ (.slice cr m.run.length crc)) ⟨wS.heap.size,4,none⟩ (.int .i64 m.tag)) ⟨wS.heap.size,5,none⟩ (.int .i64 m.call)):=by (repeat' with_reducible first | exact ExtBut.refl _ _ | refine ExtBut.dr ?_ | refine ExtBut.sc ?_ ?_ | fail) <;> dsimp only <;> omega
  replace bM:=(Box.setL (Box.setL (Box.setL (Box.setL (Box.setL (Box.setL bM 0 (.slice ca m.mem.al.length cac)) 1 (.int .i64 m.mem.next)) 2 (.slice ck m.stks.length ckc)) 3 (.slice cr m.run.length crc)) 4 (.int .i64 m.tag)) 5 (.int .i64 m.call))
  simp only [List.set_cons_zero,List.set_cons_succ] at bM
  replace bP:=(Box.other (Box.other (Box.other (Box.other (Box.other (Box.other bP (p:=⟨wS.heap.size,0,none⟩) (by simp) (.slice ca m.mem.al.length cac)) (p:=⟨wS.heap.size,1,none⟩) (by simp) (.int .i64 m.mem.next)) (p:=⟨wS.heap.size,2,none⟩) (by simp) (.slice ck m.stks.length ckc)) (p:=⟨wS.heap.size,3,none⟩) (by simp) (.slice cr m.run.length crc)) (p:=⟨wS.heap.size,4,none⟩) (by simp) (.int .i64 m.tag)) (p:=⟨wS.heap.size,5,none⟩) (by simp) (.int .i64 m.call))
  replace bR:=(Box.other (Box.other (Box.other (Box.other (Box.other (Box.other bR (p:=⟨wS.heap.size,0,none⟩) (by simp) (.slice ca m.mem.al.length cac)) (p:=⟨wS.heap.size,1,none⟩) (by simp) (.int .i64 m.mem.next)) (p:=⟨wS.heap.size,2,none⟩) (by simp) (.slice ck m.stks.length ckc)) (p:=⟨wS.heap.size,3,none⟩) (by simp) (.slice cr m.run.length crc)) (p:=⟨wS.heap.size,4,none⟩) (by simp) (.int .i64 m.tag)) (p:=⟨wS.heap.size,5,none⟩) (by simp) (.int .i64 m.call))
  replace bX:=(Box.other (Box.other (Box.other (Box.other (Box.other (Box.other bX (p:=⟨wS.heap.size,0,none⟩) (by have:=szbX.out;show wS.heap.size≠BX;omega) (.slice ca m.mem.al.length cac)) (p:=⟨wS.heap.size,1,none⟩) (by have:=szbX.out;show wS.heap.size≠BX;omega) (.int .i64 m.mem.next)) (p:=⟨wS.heap.size,2,none⟩) (by have:=szbX.out;show wS.heap.size≠BX;omega) (.slice ck m.stks.length ckc)) (p:=⟨wS.heap.size,3,none⟩) (by have:=szbX.out;show wS.heap.size≠BX;omega) (.slice cr m.run.length crc)) (p:=⟨wS.heap.size,4,none⟩) (by have:=szbX.out;show wS.heap.size≠BX;omega) (.int .i64 m.tag)) (p:=⟨wS.heap.size,5,none⟩) (by have:=szbX.out;show wS.heap.size≠BX;omega) (.int .i64 m.call))
  obtain ⟨w6s,hw6⟩ : ∃ z,(World.setCell (World.setCell (World.setCell (World.setCell (World.setCell (World.setCell w5 ⟨wS.heap.size,0,none⟩ (.slice ca m.mem.al.length cac)) ⟨wS.heap.size,1,none⟩ (.int .i64 m.mem.next)) ⟨wS.heap.size,2,none⟩ (.slice ck m.stks.length ckc)) ⟨wS.heap.size,3,none⟩ (.slice cr m.run.length crc)) ⟨wS.heap.size,4,none⟩ (.int .i64 m.tag)) ⟨wS.heap.size,5,none⟩ (.int .i64 m.call))=z:=⟨_,rfl⟩
  rw [hw6] at hS6 bM bP bR bX ⊢
  clear hw6
  have hF6:=ExtBut.ext hF5 hS6 (fun b h=>h.1)
  replace hXl1:=Lib.hid (ExtBut.trans hXl1.out hS6)
  replace hXx:=Lib.hid (ExtBut.trans hXx.out hS6)
  replace hXc:=Lib.hid (ExtBut.trans hXc.out hS6)
  clear hS6
  obtain ⟨G,sv,e,hG1,hG2,hvs,-,c0,c1,hfr⟩:=OwnK.cell (Cloned.own hC.out) hsth.out
  subst e
  have hhXc1:=hXcs.out;have hhXc2:=hXc.out.size
  have hGn : ¬ ((fun b=>wS.heap.size≤b∧b < wS.heap.size+3)) G:=by intro h;omega
  have d0:=hXc.out.cell c0 hGn
  have d1:=hXc.out.cell c1 hGn
  have hOo:=ExtBut.own (Cloned.own hC.out).outer hXc.out (fun g e=>by have e' : some G=some g:=e;cases e';exact hGn)
  have hfr0:=hOo.frozen (i * 2);have hfr1:=hOo.frozen (i * 2+1)
  have hXlo:=hXl.out;have hXxt:=hXx_hXc.out
  have hGX : G≠BX:=by omega
  have hGW : G < w6s.heap.size:=by omega
  clear hOo;replace hvs:=Lib.hid hvs;replace hGn:=Lib.hid hGn
  clear c0 c1 hfr hhXc2
  obtain ⟨bM_0,bM_1,bM_2,bM_3,bM_4,bM_5,bM_l⟩:=bM.c6
  obtain ⟨bX_0,bX_1,bX_l⟩:=bX.c2
  go_upto_region 15 with fail
  clear bM_0 bM_1 bM_2 bM_3 bM_4 bM_5 bM_l bX_0 bX_1 bX_l
  have hXg : ExtBut (fun b=>b=G) w6s (World.setCell (World.setCell w6s ⟨G,i * 2,none⟩ (.int .i64 xn)) ⟨G,i * 2+1,none⟩ (.slice xa xcs.length xc)):=by repeat' first | exact ExtBut.refl _ _ | refine ExtBut.sc ?_ rfl | refine ExtBut.dr ?_
  have hOo:=ExtBut.own (Cloned.own hC.out).outer hXc.out (fun g e=>by have e' : some G=some g:=e;cases e';exact hGn.out)
  have hOg:=(hOo.set (i * 2) (.int .i64 xn)).set (i * 2+1) (.slice xa xcs.length xc)
  have hXT:=(hXc.out.mono (S':=fun b=>b < wS.heap.size+3∨b=G) (fun b _ h => .inl h.2)).trans (hXg.mono (fun b _ h => .inr h))
  have hXX:=(hXx.out.mono (S':=fun b=>b < wS.heap.size+3∨b=G) (fun b _ h => .inl h.2)).trans (hXg.mono (fun b _ h => .inr h))
  have hxW:=hxf.out.to (S':=fun b=>wS.heap.size+3≤b) hXX (fun b h1 hl h2=>by have:=h1.1;have:=h1.2;rcases h2 with h2 | h2 <;> omega) (fun b h1 _=>h1.1)
  have hKf:=OwnK.setS (y:=⟨xn,xcs⟩) (Cloned.own hC.out) hi2 hXT (fun b h1 h2 _=>⟨fun h=>by rcases h with h | h <;> omega,by omega⟩) (by omega) hOg hxW
  have hRf:=hC.out.run.to (S':=fun b=>wS.heap.size+3≤b) hXT (fun b h1 _ h2=>by rcases h2 with h2 | h2;omega;have h3:=hC.out.out0 b (by rw [h2];rfl);have h4:=h1.2;omega) (fun b h1 _=>by have:=h1.1;omega)
  have hAf:=hC.out.al.to (S':=fun b=>wS.heap.size+3≤b) hXT (fun b h1 _ h2=>by rcases h2 with h2 | h2;omega;have h3:=hC.out.out0 b (by rw [h2];rfl);have h4:=h1.2;omega) (fun b h1 _=>by have:=h1.1;omega)
  have hX9:=(hXl1.out.mono (S':=fun b=>b < wS.heap.size+3∨b=G) (fun b _ h => .inl h.2)).trans (hXg.mono (fun b _ h => .inr h))
  have hs9:=hXl1_hXc.out
  have hLf:=hlf.out.to (S':=fun b=>wS.heap.size+3≤b) hX9 (fun b h1 hl h2=>by rcases h2 with h2 | h2 <;> omega) (fun _ h _=>h)
  clear hX9 hs9
  replace bM:=bM.but hXg (by omega);replace bP:=bP.but hXg (by omega);replace bR:=bR.but hXg (by omega)
  have hFg:=ExtBut.ext hF6 hXg (fun b h=>by have h' : b=G:=h;omega)
  replace hKf:=Lib.hid hKf
  replace hRf:=Lib.hid hRf
  replace hAf:=Lib.hid hAf
  replace hLf:=Lib.hid hLf
  obtain ⟨wE,hwE⟩ : ∃ z,(World.setCell (World.setCell w6s ⟨G,i * 2,none⟩ (.int .i64 xn)) ⟨G,i * 2+1,none⟩ (.slice xa xcs.length xc))=z:=⟨_,rfl⟩
  rw [hwE] at hKf hRf hAf hLf bM bP bR hFg ⊢
  clear hwE hXg hOg hXT hXX hxW hXc hXx hOo hGn d0 d1 hfr0 hfr1 hGW
  have hXz:=Lib.hid (ExtBut.refl (fun b=>wS.heap.size≤b∧b < wS.heap.size+3) wE)
  obtain ⟨bM_0,bM_1,bM_2,bM_3,bM_4,bM_5,bM_l⟩:=bM.c6
  have bR_0 : World.cell? wE ⟨wS.heap.size+2,0,none⟩=some (.slice none 0 0):=bR.cell 0
  have bR_1 : World.cell? wE ⟨wS.heap.size+2,1,none⟩=some (.int .i64 0):=bR.cell 1
  have bR_2 : World.cell? wE ⟨wS.heap.size+2,2,none⟩=some (.slice none 0 0):=bR.cell 2
  have bR_3 : World.cell? wE ⟨wS.heap.size+2,3,none⟩=some (.slice none 0 0):=bR.cell 3
  have bR_4 : World.cell? wE ⟨wS.heap.size+2,4,none⟩=some (.int .i64 0):=bR.cell 4
  have bR_5 : World.cell? wE ⟨wS.heap.size+2,5,none⟩=some (.int .i64 0):=bR.cell 5
  have bR_f0 : World.frozen? wE ⟨wS.heap.size+2,0,none⟩=false:=bR.frozen 0
  have bR_f1 : World.frozen? wE ⟨wS.heap.size+2,1,none⟩=false:=bR.frozen 1
  have bR_f2 : World.frozen? wE ⟨wS.heap.size+2,2,none⟩=false:=bR.frozen 2
  have bR_f3 : World.frozen? wE ⟨wS.heap.size+2,3,none⟩=false:=bR.frozen 3
  have bR_f4 : World.frozen? wE ⟨wS.heap.size+2,4,none⟩=false:=bR.frozen 4
  have bR_f5 : World.frozen? wE ⟨wS.heap.size+2,5,none⟩=false:=bR.frozen 5
  have bR_l:=bR.lt
  go_wp2
  rw [hres1.out]
  have hXe : ExtBut (fun b=>wS.heap.size≤b∧b < wS.heap.size+3) wE (World.setCell (World.setCell (World.setCell (World.setCell (World.setCell (World.setCell wE ⟨wS.heap.size+2,0,none⟩ (.slice ca m.mem.al.length cac)) ⟨wS.heap.size+2,1,none⟩ (.int .i64 m.mem.next)) ⟨wS.heap.size+2,2,none⟩ (.slice (some ⟨G,0,none⟩) m.stks.length ckc)) ⟨wS.heap.size+2,3,none⟩ (.slice cr m.run.length crc)) ⟨wS.heap.size+2,4,none⟩ (.int .i64 m.tag)) ⟨wS.heap.size+2,5,none⟩ (.int .i64 m.call)):=by (repeat' with_reducible first | exact ExtBut.refl _ _ | refine ExtBut.dr ?_ | refine ExtBut.sc ?_ ?_ | fail) <;> dsimp only <;> omega
  refine bodyPost_ret (v := .tuple #[.agg #[.slice ca m.mem.al.length cac,.int .i64 m.mem.next,.slice (some ⟨G,0,none⟩) m.stks.length ckc,.slice cr m.run.length crc,.int .i64 m.tag,.int .i64 m.call],.slice la ll.length lc,.int .u8 0,.int .i64 0]) (by simp [results,Tryz.f9,go_sem,bR_0,bR_1,bR_2,bR_3,bR_4,bR_5]) rfl ?_
  have hFe:=ExtBut.ext hFg hXe (fun b h=>h.1)
  have hXze:=ExtBut.trans hXz.out hXe
  have hKt:=(hKf.out.to (S':=fun b=>wS.heap.size≤b) hXze (fun b h1 _ h2=>by omega) (fun b h1 _=>by omega))
  skip
  exact ⟨_,_,rfl,FrMon.of_fs (m:=⟨m.mem,m.stks.set i ⟨xn,xcs⟩,m.run,m.tag,m.call⟩) (hAf.out.to (S':=fun b=>wS.heap.size≤b) hXze (fun b h1 _ h2=>by omega) (fun b h1 _=>by omega)) hKt (hRf.out.to (S':=fun b=>wS.heap.size≤b) hXze (fun b h1 _ h2=>by omega) (fun b h1 _=>by omega)),(hLf.out.to (S':=fun b=>wS.heap.size≤b) hXze (fun b h1 _ h2=>by omega) (fun b h1 _=>by omega)),hFe⟩
end Go.Proofs.YtnplphcnagooeaaGreatDoor

/- Contracts: LoadAll of the reference of layer 27; Load of both; SameCells. (printed by gen/cells27.py) -/
namespace Go.Proofs.YtnplphcnagooeaaGreatDoor
set_option maxRecDepth 100000
open Go.RowKit
theorem run_neq_cells (x y : Cell) (w : World) : (binOp .neq 78 x.val y.val).run Tryz.prog w = .ok (.bool (decide (x≠y))) w:=by
 obtain ⟨k,n,a,o,t⟩:=x
 obtain ⟨k',n',a',o',t'⟩:=y
 unfold Cell.val
 go_simp
 by_cases h1 : k=k' <;> by_cases h2 : n=n' <;> by_cases h3 : a=a' <;> by_cases h4 : o=o' <;> by_cases h5 : t=t' <;> simp [h1,h2,h3,h4,h5]
set_option maxHeartbeats 1600000 in
theorem ref27_SameCells {l m : List Cell} {v u : Value} {w : World} (hl : Cls w v l) (hm : Cls w u m) : Calls Tryz.prog 16 #[v,u] w fun e w'=>e = .returned (.bool (decide (l=m)))∧Ext w w':=by
 obtain ⟨a,cp,rfl,hlc,hcm,-⟩:=hl.form
 obtain ⟨a2,cp2,rfl,hlc2,hcm2,-⟩:=hm.form
 unfold maxLen at hcm hcm2
 by_cases hlen : l.length=m.length
 ·have hH:=Lib.hid hlen
  have hm2:=hm
  rw [← hlen] at hm2
  rw [← hlen]
  clear hlen
  have hl':=Lib.hid hl
  have hm':=Lib.hid hm2
  clear hl hm hm2
  go_enter Tryz.func16,Tryz.ntmps16
  go_wp2
  go_loopw [5] (fun i wr => ∃ k : Nat,k≤l.length∧i = .int .i64 k∧Ext w wr∧Hid (l.take k=m.take k)) (fun i _=>l.length - (intOf i).toNat)
  case atStart=>exact ⟨0,Nat.zero_le _,rfl,Ext.refl _,by simp [Hid]⟩
  case round =>
   obtain ⟨k,hk,rfl,hE,hN⟩:=hrel
   by_cases hlt : k < l.length
   ·obtain ⟨x,hx⟩ : ∃ x,l[k]? = some x:=⟨l[k],by simp [hlt]⟩
    obtain ⟨y,hy⟩ : ∃ y,m[k]? = some y:=⟨m[k]'(by have:=hH.out;omega),by simp⟩
    obtain ⟨b,off,rfl,hb,c0,c1,c2,c3,c4⟩:=(hl'.out.ext hE).cell hx
    obtain ⟨b',off',rfl,hb',d0,d1,d2,d3,d4⟩:=(hm'.out.ext hE).cell hy
    have hX:=Lib.hid hx
    have hY:=Lib.hid hy
    clear hx hy
    have hi0 : (0 : Int)≤(k : Int):=by omega
    have hi1 : (k : Int) < (l.length : Int):=by omega
    have hn:=run_neq_cells x y
    unfold Cell.val at hn
    by_cases hxy : x=y
    ·subst hxy
     simp only [ne_eq,not_true_eq_false,decide_false] at hn
     go_wp2
     go_quiet (fail)
     go_wp2
     go_roundw
     case rel=>exact ⟨k+1,by omega,by go_num,hE.drewN _,by show l.take (k+1)=m.take (k+1);rw [List.take_add_one,List.take_add_one,hX.out,hY.out,hN.out]⟩
     case measure=>simp [intOf];omega
    ·have hD:=Lib.hid hxy
     simp only [ne_eq,hxy,not_false_eq_true,decide_true] at hn
     clear hxy
     go_wp2
     go_quiet (fail)
     go_wp2
     go_ret
     refine ⟨?_,hE.drewN _⟩
     have hne : l≠m:=by
      intro e
      have h1:=hX.out
      rw [e,hY.out] at h1
      exact hD.out (Option.some.inj h1).symm
     simp [hne]
   ·have hkl : k=l.length:=by omega
    subst hkl
    go_wp2
    go_ret
    have h1:=hN.out
    rw [List.take_length,hH.out,List.take_length] at h1
    exact ⟨by simp [h1],hE⟩
 ·have hb : ((l.length : Int) == (m.length : Int))=false:=by simp;omega
  have hb' : ((l.length : Int) != (m.length : Int))=true:=by simp;omega
  have hH:=Lib.hid hlen
  clear hlen hl hm
  go_enter Tryz.func16,Tryz.ntmps16
  go_wp2
  go_ret
  have hne : l≠m:=fun e=>hH.out (by rw [e])
  exact ⟨by simp [hne],Ext.refl _⟩
theorem ref27_SameCells_yes {l : List Cell} {v u : Value} {w : World} (hl : Cls w v l) (hm : Cls w u l) : Calls Tryz.prog 16 #[v,u] w fun e w'=>e = .returned (.bool true)∧Ext w w' :=
 (ref27_SameCells hl hm).mono fun _ _ ⟨h1,h2⟩=>⟨h1.trans (by simp),h2⟩
end Go.Proofs.YtnplphcnagooeaaGreatDoor

/- In place: copy into a row that is owned aas a whole; one row of an owned memory is written. -/
namespace Go.Proofs.YtnplphcnagooeaaGreatDoor
set_option maxRecDepth 100000
open Go.RowKit
theorem run_copy_fit {P : Program} {w : World} {B : Nat} {t tx ty e : TypeId} {i : TypeInfo} {k : Nat} {g n cap j m dcap scap : Nat} {sa : Option Addr} {xs ys : List Value}
  (ht : P.underlying t=some (.slice e)) (hi : P.info? e=some i) (hik : i.size=k)
  (hown : Own w B e k (.slice (some ⟨g,0,none⟩) n cap) n xs) (hx : Sl w k (.slice sa m scap) m ys) (h1 : ∀ u ∈ ys,u.oneCell'=true) (hj : j+m≤n) :
  ∃ w',(Builtin.copy_ #[t,tx] ty #[.slice (some ⟨g,j * k,none⟩) m dcap,.slice sa m scap]).run P w = .ok (goInt m) w' ∧
   Own w' B e k (.slice (some ⟨g,0,none⟩) n cap) n (xs.take (j * k) ++ ys ++ xs.drop ((j+m) * k))∧ExtBut (fun b=>b=g) w w':=by
 subst hik
 rcases hown.2 with ⟨h,_⟩ | ⟨g',cap',cur,hv,hbg,hg,hnc,hcm,hcs,htake⟩
 ·cases h
 simp only [Value.slice.injEq,Option.some.injEq,Addr.mk.injEq,and_true,true_and] at hv
 obtain ⟨rfl,rfl⟩:=hv
 have hm1 : (j+m) * i.size≤n * i.size:=Nat.mul_le_mul_right _ hj
 have hm2 : n * i.size≤cap * i.size:=Nat.mul_le_mul_right _ hnc
 have hm3 : (j+m) * i.size=j * i.size+m * i.size:=Nat.add_mul _ _ _
 have hys : ys.length=m * i.size:=hx.len
 have hfit : j * i.size+ys.length≤cur.size:=by rw [hys,hcs];omega
 have hst:=run_storeCells_at P g (j * i.size) e ys 0 cur w hg (by simpa using hfit) h1
 simp only [Nat.add_zero] at hst
 have hfc:=hx.firstCells (P:=P)
 have hr : (Builtin.copy_ #[t,tx] ty #[.slice (some ⟨g,j * i.size,none⟩) m dcap,.slice sa m scap]).run P w =
   .ok (goInt m) (w.setRow g (cur.toList.take (j * i.size) ++ ys ++ cur.toList.drop (j * i.size+ys.length)).toArray):=by
  simp [Builtin.copy_,run_underlying ht,Builtin.lenOf,sizeOf,typeInfo,hi,hfc,hst]
 have hxl : xs.length=n * i.size:=hown.1
 refine ⟨_,hr,⟨?_,.inr ⟨g,cap,_,rfl,hbg,setRow_heap w g cur _ e _ hg,hnc,hcm,?_,?_⟩⟩,⟨rfl,rfl,rfl,by simp,fun b hb hne=>setRow_other w g b _ hne⟩⟩
 ·simp only [List.length_append,List.length_take,List.length_drop,hys,hxl]
  omega
 ·simp only [List.size_toArray,List.length_append,List.length_take,List.length_drop,Array.length_toList]
  omega
 ·have hle : j * i.size≤n * i.size:=by omega
  rw [← htake,List.take_append,List.take_of_length_le (by simp only [List.length_append,List.length_take,Array.length_toList,hys];omega)]
  congr 1
  ·congr 1
   rw [List.take_take,Nat.min_eq_left hle]
  ·rw [List.drop_take,hys,hm3,show (cur.toList.take (j * i.size) ++ ys).length=j * i.size+m * i.size by simp only [List.length_append,List.length_take,Array.length_toList,hys];omega,Nat.sub_add_eq]
theorem wpList_copy_run {P : Program} {w : World} {ops : Array Oper} {rest : List Oper} {o : Oper} {a : Act} {Q : Exit→Act→World→Prop} (hgd : o.guard=none) (s x : Operand) (t tx ty : TypeId)
  (ho : o.op = .call { callee := .builtin .copy,args:=#[s,x],argTypes:=#[t,tx] }) (hty : o.type=ty) {v u v' : Value} {w' : World} (hs : a.eval s=v) (hu : a.eval x=u)
  (hr : (Builtin.copy_ #[t,tx] ty #[v,u]).run P w = .ok v' w') (h : wpList P ops Q rest (a.put o.dst v') w') : wpList P ops Q (o :: rest) a w:=by
 subst hty
 refine wpList_plain hgd fun _ hK => ?_
 unfold Oper.wp execOp
 simp only [ho,resolve,invoke,builtin,Sem.run_bind,Sem.run_pure,Result.andThen_ok,List.map_toArray,List.map_cons,List.map_nil,hs,hu,hr]
 exact hK _ _ h
theorem OM.put_inner {w w' : World} {B : Nat} {v s : Value} {vs : List Value} {l : List Alloc} {i g : Nat} {x y : Alloc} (h : OM w B v vs l) (hx : l[i]? = some x) (hs : vs[i]? = some s) (hg : s.ownBlock=some g)
  (hX : ExtBut (fun b=>b=g) w w') (hR : OwnC w' B s y) (hn : y.num=x.num) (hl : y.live=x.live) : OM w' B v vs (l.set i y):=by
 have hlen:=(All2.iff.1 h.inner).1
 have hil:=(List.getElem?_eq_some_iff.1 hx).1
 have ht : trows arow vs (l.set i y)=trows arow vs l:=by
  have h1:=trows_set arow arow_len (j:=0) (s:=s) (s':=s) (a:=x) (a':=y) (u := .int .i64 x.num) hs hx (by omega) (by simp [arow,hn,hl])
  rw [set_same hs] at h1
  rw [← h1]
  apply set_same
  rw [trows_get arow arow_len hs hx (by omega)]
  rfl
 refine ⟨?_,All2.iff.2 ⟨by simpa using hlen,fun j a b ha hb => ?_⟩,h.apart,h.far⟩
 ·rw [ht,List.length_set]
  exact ExtBut.own h.outer hX (fun b e h'=>h.far s (List.mem_of_getElem? hs) g hg (by rw [e,h']))
 ·by_cases e : i=j
  ·subst e
   rw [List.getElem?_set_self hil] at hb
   rw [hs] at ha
   cases ha
   cases hb
   exact hR
  ·rw [List.getElem?_set_ne e] at hb
   exact OwnC.keep ((All2.iff.1 h.inner).2 j a b ha hb) hX (fun b' e1 e2=>h.apart i j s a e hs ha g hg (by rw [e1,e2]))
def RetMW (w : World) (m : Mem) (why err : Int) (en : Ending) (w' : World) : Prop := ∃ v,en = .returned (.tuple #[v,.int .u8 why,.int .i64 err])∧FrM w w' v m∧Ext w w'
end Go.Proofs.YtnplphcnagooeaaGreatDoor

/- Contract: StoreAll of the reference of layer 27. -/
namespace Go.Proofs.YtnplphcnagooeaaGreatDoor
set_option maxRecDepth 100000
open Go.RowKit
theorem RetMW.none {w w' : World} {why err : Int} (h : Ext w w') : RetMW w Mem.zero why err (.returned (.tuple #[.agg #[.slice none 0 0,.int .i64 0],.int .u8 why,.int .i64 err])) w':=⟨_,rfl,FrM.zero _ _,h⟩
end Go.Proofs.YtnplphcnagooeaaGreatDoor
