/- Several texts in one: MonL, RfD, TwA. -/
import Derived.Test.YtnplphcnagooeaaQ05
import Derived.Test.YtnplphcnagooeaaQ06
import Derived.Test.YtnplphcnagooeaaQ08
import Derived.Test.YtnplphcnagooeaaQ04
import Derived.Test.YtnplphcnagooeaaQ03
import Derived.Test.YtnplphcnagooeaaQ02
import Derived.Test.YtnplphcnagooeaaQ07
/- Contracts: monitor.Enter, monitor.Leave. (printed by gen/mon35e.py) -/
namespace Go.Proofs.Ytnplphcnagooeaa
set_option maxRecDepth 100000
open Go.RowKit
def RetF (w : World) (f : Value→Value) (m : Mon) (en : Ending) (w' : World) : Prop := ∃ v,en = .returned (f v)∧FrMon w w' v m∧Ext w w'
theorem Box.setL {w : World} {B : Nat} {e : TypeId} {l : List Value} (h : Box w B e l.toArray) (j : Nat) (u : Value) : Box (w.setCell ⟨B,j,none⟩ u) B e (l.set j u).toArray:=by
 have:=h.set j u
 simpa using this
theorem Cloned.own {w : World} {B : Nat} {c : Nat→Nat} {sa ss sr : Value} {vs : List Value} {m : Mon} (h : Cloned w B c sa ss sr vs m) : OwnK w B ss vs m.stks :=
 ⟨h.len,h.outer,fun i s x hs hx=>(h.row i s x hs hx).1.mono fun b hb _=>⟨hb.1,fun e=>by have:=h.out0 b e;omega⟩⟩
theorem MonOk.small {m : Mon} (h : MonOk m) : small m.mem.al∧(m.stks.length≤1000000 ∧ ∀ x ∈ m.stks,1≤x.cells.length∧x.cells.length≤1000000 ∧ ∀ s ∈ x.cells,s.length≤1000000)∧m.run.length≤1000000:=by
 have hb:=ok_bounds h.memOk
 refine ⟨small_of_ok h.memOk,⟨by rw [h.len];omega,fun x hx => ?_⟩,by have:=okR_len h.run;omega⟩
 obtain ⟨i,hi⟩:=List.mem_iff_getElem?.1 hx
 have hlt:=(List.getElem?_eq_some_iff.1 hi).1
 obtain ⟨x',a,hx',_,hr⟩:=h.stk (i:=i) (by rw [← h.len];exact hlt)
 rw [hi] at hx'
 cases hx'
 have hk:=(rowM_parts hr).2.2.1
 have h2:=okK_bounds hk
 unfold okK at hk
 simp only [Bool.and_eq_true,decide_eq_true_eq] at hk
 exact ⟨by omega,by omega,fun s hs=>by have:=h2.2 s hs;omega⟩
theorem leaveM_bad {m : Mon} (h : okMon m=false) : leaveM m=(Mon.zero,8):=by simp [leaveM,h]
theorem leaveM_none {m : Mon} (h : okMon m=true) (hl : m.run.length=0) : leaveM m=(Mon.zero,6):=by simp [leaveM,h,hl]
theorem leaveM_ok {m : Mon} (h : okMon m=true) (hl : ¬ m.run.length=0) : leaveM m=(⟨m.mem,m.stks,m.run.take (m.run.length - 1),m.tag,m.call⟩,0):=by rw [leaveM,if_pos h,if_neg hl]
theorem enterM_bad {m : Mon} (h : okMon m=false) : enterM m=(Mon.zero,0,8):=by simp [enterM,h]
theorem enterM_full {m : Mon} (h : okMon m=true) (hl : m.run.length=32∨m.call=1000000) : enterM m=(Mon.zero,0,18):=by simp [enterM,h,hl]
theorem enterM_ok {m : Mon} (h : okMon m=true) (hl : ¬ m.run.length=32) (hm : ¬ m.call=1000000) : enterM m=(⟨m.mem,m.stks,m.run ++ [m.call],m.tag,m.call+1⟩,m.call,0):=by simp [enterM,h,hl,hm]
theorem mon_Check' {m : Mon} {sa ss sr : Value} {w : World} (hA : Als w sa m.mem.al) (hn : i64B m.mem.next) (hK : Kts w ss m.stks) (hR : Nts w sr m.run) :
  Calls Try.prog 9 #[.agg #[sa,.int .i64 m.mem.next,ss,sr,.int .i64 m.tag,.int .i64 m.call]] w fun e w'=>e = .returned (.int .i64 (monErr m))∧Ext w w':=mon_Check hA hn hK hR
set_option maxRecDepth 100000 in
set_option maxHeartbeats 6400000 in
theorem monitor_Enter {m : Mon} {sa ss sr : Value} {w : World} (hA : Als w sa m.mem.al) (hn : i64B m.mem.next) (hK : Kts w ss m.stks) (hR : Nts w sr m.run) :
  Calls Try.prog 11 #[.agg #[sa,.int .i64 m.mem.next,ss,sr,.int .i64 m.tag,.int .i64 m.call]] w (RetF w (fun v => .tuple #[v,.int .i64 (enterM m).2.1,.int .i64 (enterM m).2.2]) (enterM m).1):=by
 obtain ⟨aa,ac,rfl,hac,hacm,-⟩:=hA.form
 obtain ⟨ka,kc,rfl,hkc,hkcm,-⟩:=hK.form
 obtain ⟨ra,rc,rfl,hrc,hrcm,-⟩:=hR.form
 unfold maxLen at hacm hkcm hrcm
 have hE0 : Ext w (World.alloc (World.alloc w (.cells #[.slice aa m.mem.al.length ac,.int .i64 m.mem.next,.slice ka m.stks.length kc,.slice ra m.run.length rc,.int .i64 m.tag,.int .i64 m.call] 28)) (.cells #[.slice none 0 0,.int .i64 0,.slice none 0 0,.slice none 0 0,.int .i64 0,.int .i64 0] 28)):=by repeat (first | exact Ext.refl _ | refine Ext.alloc ?_ _)
 have bM : Box (World.alloc (World.alloc w (.cells #[.slice aa m.mem.al.length ac,.int .i64 m.mem.next,.slice ka m.stks.length kc,.slice ra m.run.length rc,.int .i64 m.tag,.int .i64 m.call] 28)) (.cells #[.slice none 0 0,.int .i64 0,.slice none 0 0,.slice none 0 0,.int .i64 0,.int .i64 0] 28)) (w.heap.size) 28 #[.slice aa m.mem.al.length ac,.int .i64 m.mem.next,.slice ka m.stks.length kc,.slice ra m.run.length rc,.int .i64 m.tag,.int .i64 m.call]:=(by
  have h:=Box.new w 28 #[.slice aa m.mem.al.length ac,.int .i64 m.mem.next,.slice ka m.stks.length kc,.slice ra m.run.length rc,.int .i64 m.tag,.int .i64 m.call]
  replace h:=Box.ext h ((Ext.refl _).alloc (.cells #[.slice none 0 0,.int .i64 0,.slice none 0 0,.slice none 0 0,.int .i64 0,.int .i64 0] 28))
  exact h)
 have bR : Box (World.alloc (World.alloc w (.cells #[.slice aa m.mem.al.length ac,.int .i64 m.mem.next,.slice ka m.stks.length kc,.slice ra m.run.length rc,.int .i64 m.tag,.int .i64 m.call] 28)) (.cells #[.slice none 0 0,.int .i64 0,.slice none 0 0,.slice none 0 0,.int .i64 0,.int .i64 0] 28)) (w.heap.size+1) 28 #[.slice none 0 0,.int .i64 0,.slice none 0 0,.slice none 0 0,.int .i64 0,.int .i64 0]:=(by
  have h:=Box.new (World.alloc w (.cells #[.slice aa m.mem.al.length ac,.int .i64 m.mem.next,.slice ka m.stks.length kc,.slice ra m.run.length rc,.int .i64 m.tag,.int .i64 m.call] 28)) 28 #[.slice none 0 0,.int .i64 0,.slice none 0 0,.slice none 0 0,.int .i64 0,.int .i64 0]
  simp only [World.size_alloc] at h
  exact h)
 obtain ⟨w0,hw0⟩ : ∃ z,(World.alloc (World.alloc w (.cells #[.slice aa m.mem.al.length ac,.int .i64 m.mem.next,.slice ka m.stks.length kc,.slice ra m.run.length rc,.int .i64 m.tag,.int .i64 m.call] 28)) (.cells #[.slice none 0 0,.int .i64 0,.slice none 0 0,.slice none 0 0,.int .i64 0,.int .i64 0] 28))=z:=⟨_,rfl⟩
 rw [hw0] at hE0 bM bR
 have hs0 : w0.heap.size=w.heap.size+2:=by rw [← hw0];simp
 replace hs0:=Lib.hid hs0
 replace hA:=Lib.hid hA
 replace hK:=Lib.hid hK
 replace hR:=Lib.hid hR
 replace hn:=Lib.hid hn
 cases hok : okMon m
 ·skip
  have hce:=Lib.hid (monErr_not hok)
  have hres:=Lib.hid (enterM_bad hok)
  clear hok
  go_enter Try.func11,Try.ntmps11
  obtain ⟨bM_0,bM_1,bM_2,bM_3,bM_4,bM_5,bM_l⟩:=bM.c6
  go_wp2_with fail
  clear bM_0 bM_1 bM_2 bM_3 bM_4 bM_5 bM_l
  refine (mon_Check' (hA.out.ext hE0) hn.out (hK.out.ext hE0) (hR.out.ext hE0)).mono ?_
  rintro e w1 ⟨rfl,hE1⟩
  replace bM:=bM.ext hE1
  replace bR:=bR.ext hE1
  have hF1:=Ext.trans hE0 hE1
  rw [hce.out]
  clear hw0
  obtain ⟨bM_0,bM_1,bM_2,bM_3,bM_4,bM_5,bM_l⟩:=bM.c6
  have bR_0 : World.cell? w1 ⟨w.heap.size+1,0,none⟩=some (.slice none 0 0):=bR.cell 0
  have bR_1 : World.cell? w1 ⟨w.heap.size+1,1,none⟩=some (.int .i64 0):=bR.cell 1
  have bR_2 : World.cell? w1 ⟨w.heap.size+1,2,none⟩=some (.slice none 0 0):=bR.cell 2
  have bR_3 : World.cell? w1 ⟨w.heap.size+1,3,none⟩=some (.slice none 0 0):=bR.cell 3
  have bR_4 : World.cell? w1 ⟨w.heap.size+1,4,none⟩=some (.int .i64 0):=bR.cell 4
  have bR_5 : World.cell? w1 ⟨w.heap.size+1,5,none⟩=some (.int .i64 0):=bR.cell 5
  have bR_f0 : World.frozen? w1 ⟨w.heap.size+1,0,none⟩=false:=bR.frozen 0
  have bR_f1 : World.frozen? w1 ⟨w.heap.size+1,1,none⟩=false:=bR.frozen 1
  have bR_f2 : World.frozen? w1 ⟨w.heap.size+1,2,none⟩=false:=bR.frozen 2
  have bR_f3 : World.frozen? w1 ⟨w.heap.size+1,3,none⟩=false:=bR.frozen 3
  have bR_f4 : World.frozen? w1 ⟨w.heap.size+1,4,none⟩=false:=bR.frozen 4
  have bR_f5 : World.frozen? w1 ⟨w.heap.size+1,5,none⟩=false:=bR.frozen 5
  have bR_l:=bR.lt
  go_wp2
  rw [hres.out]
  have hXe : ExtBut (fun b=>w.heap.size≤b∧b < w.heap.size+2) w1 (World.setCell (World.setCell (World.setCell (World.setCell (World.setCell (World.setCell w1 ⟨w.heap.size+1,0,none⟩ (.slice none 0 0)) ⟨w.heap.size+1,1,none⟩ (.int .i64 0)) ⟨w.heap.size+1,2,none⟩ (.slice none 0 0)) ⟨w.heap.size+1,3,none⟩ (.slice none 0 0)) ⟨w.heap.size+1,4,none⟩ (.int .i64 0)) ⟨w.heap.size+1,5,none⟩ (.int .i64 0)):=by (repeat' with_reducible first | exact ExtBut.refl _ _ | refine ExtBut.dr ?_ | refine ExtBut.sc ?_ ?_ | fail) <;> dsimp only <;> omega
  refine bodyPost_ret (v := .tuple #[.agg #[.slice none 0 0,.int .i64 0,.slice none 0 0,.slice none 0 0,.int .i64 0,.int .i64 0],.int .i64 0,.int .i64 8]) (by simp [results,Try.f11,go_sem,bR_0,bR_1,bR_2,bR_3,bR_4,bR_5]) rfl ?_
  have hFe:=ExtBut.ext hF1 hXe (fun b h=>h.1)
  exact ⟨_,rfl,FrMon.zero _ _,hFe⟩
 have hMok:=MonOk.of hok
 have hce:=Lib.hid (monErr_of hok)
 have hcl:=Lib.hid hMok.small
 have hen:=hMok.enter
 by_cases hl : m.run.length=32
 ·skip
  rw [if_pos hl] at hen
  replace hen:=Lib.hid hen
  have hres:=Lib.hid (enterM_full hok (.inl hl))
  clear hok hMok hl
  go_enter Try.func11,Try.ntmps11
  obtain ⟨bM_0,bM_1,bM_2,bM_3,bM_4,bM_5,bM_l⟩:=bM.c6
  go_wp2_with fail
  clear bM_0 bM_1 bM_2 bM_3 bM_4 bM_5 bM_l
  refine (mon_Check' (hA.out.ext hE0) hn.out (hK.out.ext hE0) (hR.out.ext hE0)).mono ?_
  rintro e w1 ⟨rfl,hE1⟩
  replace bM:=bM.ext hE1
  replace bR:=bR.ext hE1
  have hF1:=Ext.trans hE0 hE1
  rw [hce.out]
  clear hw0
  obtain ⟨bM_0,bM_1,bM_2,bM_3,bM_4,bM_5,bM_l⟩:=bM.c6
  go_wp2_with fail
  clear bM_0 bM_1 bM_2 bM_3 bM_4 bM_5 bM_l
  have hXns:=Lib.hid (by have:=bR.lt;omega : w.heap.size+2≤w1.heap.size)
  refine (guard_EnterF m.call (hR.out.ext hF1)).mono ?_
  rintro e w2 ⟨vn,rfl,hvn,hE2⟩
  replace bM:=bM.ext hE2
  replace bR:=bR.ext hE2
  have hF2:=Ext.trans hF1 hE2
  rw [hen.out] at hvn ⊢
  have hv:=hvn.read.form
  obtain ⟨na,nc,rfl,-⟩:=hv
  dsimp only [List.length]
  have hXn:=Lib.hid (ExtBut.refl (fun b=>w.heap.size≤b∧b < w.heap.size+2) w2)
  obtain ⟨bM_0,bM_1,bM_2,bM_3,bM_4,bM_5,bM_l⟩:=bM.c6
  have bR_0 : World.cell? w2 ⟨w.heap.size+1,0,none⟩=some (.slice none 0 0):=bR.cell 0
  have bR_1 : World.cell? w2 ⟨w.heap.size+1,1,none⟩=some (.int .i64 0):=bR.cell 1
  have bR_2 : World.cell? w2 ⟨w.heap.size+1,2,none⟩=some (.slice none 0 0):=bR.cell 2
  have bR_3 : World.cell? w2 ⟨w.heap.size+1,3,none⟩=some (.slice none 0 0):=bR.cell 3
  have bR_4 : World.cell? w2 ⟨w.heap.size+1,4,none⟩=some (.int .i64 0):=bR.cell 4
  have bR_5 : World.cell? w2 ⟨w.heap.size+1,5,none⟩=some (.int .i64 0):=bR.cell 5
  have bR_f0 : World.frozen? w2 ⟨w.heap.size+1,0,none⟩=false:=bR.frozen 0
  have bR_f1 : World.frozen? w2 ⟨w.heap.size+1,1,none⟩=false:=bR.frozen 1
  have bR_f2 : World.frozen? w2 ⟨w.heap.size+1,2,none⟩=false:=bR.frozen 2
  have bR_f3 : World.frozen? w2 ⟨w.heap.size+1,3,none⟩=false:=bR.frozen 3
  have bR_f4 : World.frozen? w2 ⟨w.heap.size+1,4,none⟩=false:=bR.frozen 4
  have bR_f5 : World.frozen? w2 ⟨w.heap.size+1,5,none⟩=false:=bR.frozen 5
  have bR_l:=bR.lt
  go_wp2
  rw [hres.out]
  have hXe : ExtBut (fun b=>w.heap.size≤b∧b < w.heap.size+2) w2 (World.setCell (World.setCell (World.setCell (World.setCell (World.setCell (World.setCell w2 ⟨w.heap.size+1,0,none⟩ (.slice none 0 0)) ⟨w.heap.size+1,1,none⟩ (.int .i64 0)) ⟨w.heap.size+1,2,none⟩ (.slice none 0 0)) ⟨w.heap.size+1,3,none⟩ (.slice none 0 0)) ⟨w.heap.size+1,4,none⟩ (.int .i64 0)) ⟨w.heap.size+1,5,none⟩ (.int .i64 0)):=by (repeat' with_reducible first | exact ExtBut.refl _ _ | refine ExtBut.dr ?_ | refine ExtBut.sc ?_ ?_ | fail) <;> dsimp only <;> omega
  refine bodyPost_ret (v := .tuple #[.agg #[.slice none 0 0,.int .i64 0,.slice none 0 0,.slice none 0 0,.int .i64 0,.int .i64 0],.int .i64 0,.int .i64 18]) (by simp [results,Try.f11,go_sem,bR_0,bR_1,bR_2,bR_3,bR_4,bR_5]) rfl ?_
  have hFe:=ExtBut.ext hF2 hXe (fun b h=>h.1)
  have hXne:=ExtBut.trans hXn.out hXe
  exact ⟨_,rfl,FrMon.zero _ _,hFe⟩
 rw [if_neg hl] at hen
 replace hen:=Lib.hid hen
 by_cases hm : m.call=1000000
 ·skip
  have hres:=Lib.hid (enterM_full hok (.inr hm))
  have q1 : (m.call == 1000000)=true:=by rw [hm];rfl
  clear hok hMok hl hm
  go_enter Try.func11,Try.ntmps11
  obtain ⟨bM_0,bM_1,bM_2,bM_3,bM_4,bM_5,bM_l⟩:=bM.c6
  go_wp2_with fail
  clear bM_0 bM_1 bM_2 bM_3 bM_4 bM_5 bM_l
  refine (mon_Check' (hA.out.ext hE0) hn.out (hK.out.ext hE0) (hR.out.ext hE0)).mono ?_
  rintro e w1 ⟨rfl,hE1⟩
  replace bM:=bM.ext hE1
  replace bR:=bR.ext hE1
  have hF1:=Ext.trans hE0 hE1
  rw [hce.out]
  clear hw0
  obtain ⟨bM_0,bM_1,bM_2,bM_3,bM_4,bM_5,bM_l⟩:=bM.c6
  go_wp2_with fail
  clear bM_0 bM_1 bM_2 bM_3 bM_4 bM_5 bM_l
  have hXns:=Lib.hid (by have:=bR.lt;omega : w.heap.size+2≤w1.heap.size)
  refine (guard_EnterF m.call (hR.out.ext hF1)).mono ?_
  rintro e w2 ⟨vn,rfl,hvn,hE2⟩
  replace bM:=bM.ext hE2
  replace bR:=bR.ext hE2
  have hF2:=Ext.trans hF1 hE2
  rw [hen.out] at hvn ⊢
  have hv:=hvn.read.form
  obtain ⟨na,nc,rfl,-⟩:=hv
  dsimp only [List.length]
  have hXn:=Lib.hid (ExtBut.refl (fun b=>w.heap.size≤b∧b < w.heap.size+2) w2)
  obtain ⟨bM_0,bM_1,bM_2,bM_3,bM_4,bM_5,bM_l⟩:=bM.c6
  have bR_0 : World.cell? w2 ⟨w.heap.size+1,0,none⟩=some (.slice none 0 0):=bR.cell 0
  have bR_1 : World.cell? w2 ⟨w.heap.size+1,1,none⟩=some (.int .i64 0):=bR.cell 1
  have bR_2 : World.cell? w2 ⟨w.heap.size+1,2,none⟩=some (.slice none 0 0):=bR.cell 2
  have bR_3 : World.cell? w2 ⟨w.heap.size+1,3,none⟩=some (.slice none 0 0):=bR.cell 3
  have bR_4 : World.cell? w2 ⟨w.heap.size+1,4,none⟩=some (.int .i64 0):=bR.cell 4
  have bR_5 : World.cell? w2 ⟨w.heap.size+1,5,none⟩=some (.int .i64 0):=bR.cell 5
  have bR_f0 : World.frozen? w2 ⟨w.heap.size+1,0,none⟩=false:=bR.frozen 0
  have bR_f1 : World.frozen? w2 ⟨w.heap.size+1,1,none⟩=false:=bR.frozen 1
  have bR_f2 : World.frozen? w2 ⟨w.heap.size+1,2,none⟩=false:=bR.frozen 2
  have bR_f3 : World.frozen? w2 ⟨w.heap.size+1,3,none⟩=false:=bR.frozen 3
  have bR_f4 : World.frozen? w2 ⟨w.heap.size+1,4,none⟩=false:=bR.frozen 4
  have bR_f5 : World.frozen? w2 ⟨w.heap.size+1,5,none⟩=false:=bR.frozen 5
  have bR_l:=bR.lt
  go_wp2
  rw [hres.out]
  have hXe : ExtBut (fun b=>w.heap.size≤b∧b < w.heap.size+2) w2 (World.setCell (World.setCell (World.setCell (World.setCell (World.setCell (World.setCell w2 ⟨w.heap.size+1,0,none⟩ (.slice none 0 0)) ⟨w.heap.size+1,1,none⟩ (.int .i64 0)) ⟨w.heap.size+1,2,none⟩ (.slice none 0 0)) ⟨w.heap.size+1,3,none⟩ (.slice none 0 0)) ⟨w.heap.size+1,4,none⟩ (.int .i64 0)) ⟨w.heap.size+1,5,none⟩ (.int .i64 0)):=by (repeat' with_reducible first | exact ExtBut.refl _ _ | refine ExtBut.dr ?_ | refine ExtBut.sc ?_ ?_ | fail) <;> dsimp only <;> omega
  refine bodyPost_ret (v := .tuple #[.agg #[.slice none 0 0,.int .i64 0,.slice none 0 0,.slice none 0 0,.int .i64 0,.int .i64 0],.int .i64 0,.int .i64 18]) (by simp [results,Try.f11,go_sem,bR_0,bR_1,bR_2,bR_3,bR_4,bR_5]) rfl ?_
  have hFe:=ExtBut.ext hF2 hXe (fun b h=>h.1)
  have hXne:=ExtBut.trans hXn.out hXe
  exact ⟨_,rfl,FrMon.zero _ _,hFe⟩
 have hres:=Lib.hid (enterM_ok hok hl hm)
 have q1 : (m.call == 1000000)=false:=beq_eq_false_iff_ne.2 hm
 have hcb:=hMok.call
 have w1 : IntKind.i64.wrap (m.call+1)=m.call+1:=IntWalk.i64_in _ (by omega)
 clear hok hMok hl hm hcb
 go_enter Try.func11,Try.ntmps11
 obtain ⟨bM_0,bM_1,bM_2,bM_3,bM_4,bM_5,bM_l⟩:=bM.c6
 go_wp2_with fail
 clear bM_0 bM_1 bM_2 bM_3 bM_4 bM_5 bM_l
 refine (mon_Check' (hA.out.ext hE0) hn.out (hK.out.ext hE0) (hR.out.ext hE0)).mono ?_
 rintro e w1 ⟨rfl,hE1⟩
 replace bM:=bM.ext hE1
 replace bR:=bR.ext hE1
 have hF1:=Ext.trans hE0 hE1
 rw [hce.out]
 clear hw0
 obtain ⟨bM_0,bM_1,bM_2,bM_3,bM_4,bM_5,bM_l⟩:=bM.c6
 go_wp2_with fail
 clear bM_0 bM_1 bM_2 bM_3 bM_4 bM_5 bM_l
 have hXns:=Lib.hid (by have:=bR.lt;omega : w.heap.size+2≤w1.heap.size)
 refine (guard_EnterF m.call (hR.out.ext hF1)).mono ?_
 rintro e w2 ⟨vn,rfl,hvn,hE2⟩
 replace bM:=bM.ext hE2
 replace bR:=bR.ext hE2
 have hF2:=Ext.trans hF1 hE2
 rw [hen.out] at hvn ⊢
 have hv:=hvn.read.form
 obtain ⟨na,nc,rfl,-⟩:=hv
 simp only [List.length_append,List.length_cons,List.length_nil,Nat.zero_add] at hvn ⊢
 have hN:=Lib.hid hvn
 clear hvn
 skip
 have hXn:=Lib.hid (ExtBut.refl (fun b=>w.heap.size≤b∧b < w.heap.size+2) w2)
 obtain ⟨bM_0,bM_1,bM_2,bM_3,bM_4,bM_5,bM_l⟩:=bM.c6
 go_wp2_with fail
 clear bM_0 bM_1 bM_2 bM_3 bM_4 bM_5 bM_l
 have hXcs:=Lib.hid (by have:=bR.lt;omega : w.heap.size+2≤w2.heap.size)
 have hXn_hXc:=Lib.hid hXn.out.size
 refine (monitor_clone (hA.out.ext hF2) (hK.out.ext hF2) (hR.out.ext hF2) hcl.out.1 hcl.out.2.1 hcl.out.2.2).mono ?_
 rintro e w3 ⟨c,ca,ck,cr,vs,rfl,hC,hE3⟩
 replace bM:=bM.ext hE3
 replace bR:=bR.ext hE3
 replace hXn:=Lib.hid (ExtBut.trans hXn.out (ExtBut.of_ext hE3))
 have hF3:=Ext.trans hF2 hE3
 have hv:=hC.al.read.form
 obtain ⟨ca,cac,rfl,-⟩:=hv
 have hv:=hC.outer.sl.slice_form
 obtain ⟨ck,ckc,rfl,-⟩:=hv
 have hv:=hC.run.read.form
 obtain ⟨cr,crc,rfl,-⟩:=hv
 replace hC:=Lib.hid hC
 have hXc:=Lib.hid (ExtBut.refl (fun b=>w.heap.size≤b∧b < w.heap.size+2) w3)
 have bM_0 : World.cell? w3 ⟨w.heap.size,0,none⟩=some (.slice aa m.mem.al.length ac):=bM.cell 0
 have bM_1 : World.cell? w3 ⟨w.heap.size,1,none⟩=some (.int .i64 m.mem.next):=bM.cell 1
 have bM_2 : World.cell? w3 ⟨w.heap.size,2,none⟩=some (.slice ka m.stks.length kc):=bM.cell 2
 have bM_3 : World.cell? w3 ⟨w.heap.size,3,none⟩=some (.slice ra m.run.length rc):=bM.cell 3
 have bM_4 : World.cell? w3 ⟨w.heap.size,4,none⟩=some (.int .i64 m.tag):=bM.cell 4
 have bM_5 : World.cell? w3 ⟨w.heap.size,5,none⟩=some (.int .i64 m.call):=bM.cell 5
 have bM_f0 : World.frozen? w3 ⟨w.heap.size,0,none⟩=false:=bM.frozen 0
 have bM_f1 : World.frozen? w3 ⟨w.heap.size,1,none⟩=false:=bM.frozen 1
 have bM_f2 : World.frozen? w3 ⟨w.heap.size,2,none⟩=false:=bM.frozen 2
 have bM_f3 : World.frozen? w3 ⟨w.heap.size,3,none⟩=false:=bM.frozen 3
 have bM_f4 : World.frozen? w3 ⟨w.heap.size,4,none⟩=false:=bM.frozen 4
 have bM_f5 : World.frozen? w3 ⟨w.heap.size,5,none⟩=false:=bM.frozen 5
 have bM_l:=bM.lt
 go_upto_region 9 with fail
 clear bM_0 bM_1 bM_2 bM_3 bM_4 bM_5 bM_f0 bM_f1 bM_f2 bM_f3 bM_f4 bM_f5 bM_l
 have hS4 : ExtBut (fun b=>w.heap.size≤b∧b < w.heap.size+2) w3 (World.setCell (World.setCell (World.setCell (World.setCell (World.setCell (World.setCell w3 ⟨w.heap.size,0,none⟩ (.slice ca m.mem.al.length cac)) ⟨w.heap.size,1,none⟩ (.int .i64 m.mem.next)) ⟨w.heap.size,2,none⟩ (.slice ck m.stks.length ckc)) ⟨w.heap.size,3,none⟩ (.slice cr m.run.length crc)) ⟨w.heap.size,4,none⟩ (.int .i64 m.tag)) ⟨w.heap.size,5,none⟩ (.int .i64 m.call)):=by (repeat' with_reducible first | exact ExtBut.refl _ _ | refine ExtBut.dr ?_ | refine ExtBut.sc ?_ ?_ | fail) <;> dsimp only <;> omega
 replace bM:=(Box.setL (Box.setL (Box.setL (Box.setL (Box.setL (Box.setL bM 0 (.slice ca m.mem.al.length cac)) 1 (.int .i64 m.mem.next)) 2 (.slice ck m.stks.length ckc)) 3 (.slice cr m.run.length crc)) 4 (.int .i64 m.tag)) 5 (.int .i64 m.call))
 simp only [List.set_cons_zero,List.set_cons_succ] at bM
 replace bR:=(Box.other (Box.other (Box.other (Box.other (Box.other (Box.other bR (p:=⟨w.heap.size,0,none⟩) (by simp) (.slice ca m.mem.al.length cac)) (p:=⟨w.heap.size,1,none⟩) (by simp) (.int .i64 m.mem.next)) (p:=⟨w.heap.size,2,none⟩) (by simp) (.slice ck m.stks.length ckc)) (p:=⟨w.heap.size,3,none⟩) (by simp) (.slice cr m.run.length crc)) (p:=⟨w.heap.size,4,none⟩) (by simp) (.int .i64 m.tag)) (p:=⟨w.heap.size,5,none⟩) (by simp) (.int .i64 m.call))
 obtain ⟨w4s,hw4⟩ : ∃ z,(World.setCell (World.setCell (World.setCell (World.setCell (World.setCell (World.setCell w3 ⟨w.heap.size,0,none⟩ (.slice ca m.mem.al.length cac)) ⟨w.heap.size,1,none⟩ (.int .i64 m.mem.next)) ⟨w.heap.size,2,none⟩ (.slice ck m.stks.length ckc)) ⟨w.heap.size,3,none⟩ (.slice cr m.run.length crc)) ⟨w.heap.size,4,none⟩ (.int .i64 m.tag)) ⟨w.heap.size,5,none⟩ (.int .i64 m.call))=z:=⟨_,rfl⟩
 rw [hw4] at hS4 bM bR ⊢
 clear hw4
 have hF4:=ExtBut.ext hF3 hS4 (fun b h=>h.1)
 replace hXn:=Lib.hid (ExtBut.trans hXn.out hS4)
 replace hXc:=Lib.hid (ExtBut.trans hXc.out hS4)
 clear hS4
 have bM_0 : World.cell? w4s ⟨w.heap.size,0,none⟩=some (.slice ca m.mem.al.length cac):=bM.cell 0
 have bM_1 : World.cell? w4s ⟨w.heap.size,1,none⟩=some (.int .i64 m.mem.next):=bM.cell 1
 have bM_2 : World.cell? w4s ⟨w.heap.size,2,none⟩=some (.slice ck m.stks.length ckc):=bM.cell 2
 have bM_3 : World.cell? w4s ⟨w.heap.size,3,none⟩=some (.slice cr m.run.length crc):=bM.cell 3
 have bM_4 : World.cell? w4s ⟨w.heap.size,4,none⟩=some (.int .i64 m.tag):=bM.cell 4
 have bM_5 : World.cell? w4s ⟨w.heap.size,5,none⟩=some (.int .i64 m.call):=bM.cell 5
 have bM_f0 : World.frozen? w4s ⟨w.heap.size,0,none⟩=false:=bM.frozen 0
 have bM_f1 : World.frozen? w4s ⟨w.heap.size,1,none⟩=false:=bM.frozen 1
 have bM_f2 : World.frozen? w4s ⟨w.heap.size,2,none⟩=false:=bM.frozen 2
 have bM_f3 : World.frozen? w4s ⟨w.heap.size,3,none⟩=false:=bM.frozen 3
 have bM_f4 : World.frozen? w4s ⟨w.heap.size,4,none⟩=false:=bM.frozen 4
 have bM_f5 : World.frozen? w4s ⟨w.heap.size,5,none⟩=false:=bM.frozen 5
 have bM_l:=bM.lt
 go_upto_region 11 with fail
 clear bM_0 bM_1 bM_2 bM_3 bM_4 bM_5 bM_f0 bM_f1 bM_f2 bM_f3 bM_f4 bM_f5 bM_l
 have hS5 : ExtBut (fun b=>w.heap.size≤b∧b < w.heap.size+2) w4s (World.setCell (World.setCell w4s ⟨w.heap.size,3,none⟩ (.slice na (m.run.length+1) nc)) ⟨w.heap.size,5,none⟩ (.int .i64 (m.call+1))):=by (repeat' with_reducible first | exact ExtBut.refl _ _ | refine ExtBut.dr ?_ | refine ExtBut.sc ?_ ?_ | fail) <;> dsimp only <;> omega
 replace bM:=(Box.setL (Box.setL bM 3 (.slice na (m.run.length+1) nc)) 5 (.int .i64 (m.call+1)))
 simp only [List.set_cons_zero,List.set_cons_succ] at bM
 replace bR:=(Box.other (Box.other bR (p:=⟨w.heap.size,3,none⟩) (by simp) (.slice na (m.run.length+1) nc)) (p:=⟨w.heap.size,5,none⟩) (by simp) (.int .i64 (m.call+1)))
 obtain ⟨w5s,hw5⟩ : ∃ z,(World.setCell (World.setCell w4s ⟨w.heap.size,3,none⟩ (.slice na (m.run.length+1) nc)) ⟨w.heap.size,5,none⟩ (.int .i64 (m.call+1)))=z:=⟨_,rfl⟩
 rw [hw5] at hS5 bM bR ⊢
 clear hw5
 have hF5:=ExtBut.ext hF4 hS5 (fun b h=>h.1)
 replace hXn:=Lib.hid (ExtBut.trans hXn.out hS5)
 replace hXc:=Lib.hid (ExtBut.trans hXc.out hS5)
 clear hS5
 obtain ⟨bM_0,bM_1,bM_2,bM_3,bM_4,bM_5,bM_l⟩:=bM.c6
 have bR_0 : World.cell? w5s ⟨w.heap.size+1,0,none⟩=some (.slice none 0 0):=bR.cell 0
 have bR_1 : World.cell? w5s ⟨w.heap.size+1,1,none⟩=some (.int .i64 0):=bR.cell 1
 have bR_2 : World.cell? w5s ⟨w.heap.size+1,2,none⟩=some (.slice none 0 0):=bR.cell 2
 have bR_3 : World.cell? w5s ⟨w.heap.size+1,3,none⟩=some (.slice none 0 0):=bR.cell 3
 have bR_4 : World.cell? w5s ⟨w.heap.size+1,4,none⟩=some (.int .i64 0):=bR.cell 4
 have bR_5 : World.cell? w5s ⟨w.heap.size+1,5,none⟩=some (.int .i64 0):=bR.cell 5
 have bR_f0 : World.frozen? w5s ⟨w.heap.size+1,0,none⟩=false:=bR.frozen 0
 have bR_f1 : World.frozen? w5s ⟨w.heap.size+1,1,none⟩=false:=bR.frozen 1
 have bR_f2 : World.frozen? w5s ⟨w.heap.size+1,2,none⟩=false:=bR.frozen 2
 have bR_f3 : World.frozen? w5s ⟨w.heap.size+1,3,none⟩=false:=bR.frozen 3
 have bR_f4 : World.frozen? w5s ⟨w.heap.size+1,4,none⟩=false:=bR.frozen 4
 have bR_f5 : World.frozen? w5s ⟨w.heap.size+1,5,none⟩=false:=bR.frozen 5
 have bR_l:=bR.lt
 go_wp2
 rw [hres.out]
 have hXe : ExtBut (fun b=>w.heap.size≤b∧b < w.heap.size+2) w5s (World.setCell (World.setCell (World.setCell (World.setCell (World.setCell (World.setCell w5s ⟨w.heap.size+1,0,none⟩ (.slice ca m.mem.al.length cac)) ⟨w.heap.size+1,1,none⟩ (.int .i64 m.mem.next)) ⟨w.heap.size+1,2,none⟩ (.slice ck m.stks.length ckc)) ⟨w.heap.size+1,3,none⟩ (.slice na (m.run.length+1) nc)) ⟨w.heap.size+1,4,none⟩ (.int .i64 m.tag)) ⟨w.heap.size+1,5,none⟩ (.int .i64 (m.call+1))):=by (repeat' with_reducible first | exact ExtBut.refl _ _ | refine ExtBut.dr ?_ | refine ExtBut.sc ?_ ?_ | fail) <;> dsimp only <;> omega
 refine bodyPost_ret (v := .tuple #[.agg #[.slice ca m.mem.al.length cac,.int .i64 m.mem.next,.slice ck m.stks.length ckc,.slice na (m.run.length+1) nc,.int .i64 m.tag,.int .i64 (m.call+1)],.int .i64 m.call,.int .i64 0]) (by simp [results,Try.f11,go_sem,bR_0,bR_1,bR_2,bR_3,bR_4,bR_5]) rfl ?_
 have hFe:=ExtBut.ext hF5 hXe (fun b h=>h.1)
 have hXne:=ExtBut.trans hXn.out hXe
 have hXce:=ExtBut.trans hXc.out hXe
 exact ⟨_,rfl,FrMon.of_fs (m:=⟨m.mem,m.stks,m.run ++ [m.call],m.tag,m.call+1⟩) (hC.out.al.to (S':=fun b=>w.heap.size≤b) hXce (fun b h1 _ h2=>by have:=hXcs.out;omega) (fun b h1 _=>by have:=hXcs.out;omega)) ((OwnK.fs (Cloned.own hC.out)).to (S':=fun b=>w.heap.size≤b) hXce (fun b h1 _ h2=>by have:=hXcs.out;omega) (fun b h1 _=>by have:=hXcs.out;omega)) (hN.out.to (S':=fun b=>w.heap.size≤b) hXne (fun b h1 _ h2=>by have:=hXns.out;omega) (fun b h1 _=>by have:=hXns.out;omega)),hFe⟩
set_option maxRecDepth 100000 in
set_option maxHeartbeats 6400000 in
theorem monitor_Leave {m : Mon} {sa ss sr : Value} {w : World} (hA : Als w sa m.mem.al) (hn : i64B m.mem.next) (hK : Kts w ss m.stks) (hR : Nts w sr m.run) :
  Calls Try.prog 13 #[.agg #[sa,.int .i64 m.mem.next,ss,sr,.int .i64 m.tag,.int .i64 m.call]] w (RetF w (fun v => .tuple #[v,.int .i64 (leaveM m).2]) (leaveM m).1):=by
 obtain ⟨aa,ac,rfl,hac,hacm,-⟩:=hA.form
 obtain ⟨ka,kc,rfl,hkc,hkcm,-⟩:=hK.form
 obtain ⟨ra,rc,rfl,hrc,hrcm,-⟩:=hR.form
 unfold maxLen at hacm hkcm hrcm
 have hE0 : Ext w (World.alloc (World.alloc w (.cells #[.slice aa m.mem.al.length ac,.int .i64 m.mem.next,.slice ka m.stks.length kc,.slice ra m.run.length rc,.int .i64 m.tag,.int .i64 m.call] 28)) (.cells #[.slice none 0 0,.int .i64 0,.slice none 0 0,.slice none 0 0,.int .i64 0,.int .i64 0] 28)):=by repeat (first | exact Ext.refl _ | refine Ext.alloc ?_ _)
 have bM : Box (World.alloc (World.alloc w (.cells #[.slice aa m.mem.al.length ac,.int .i64 m.mem.next,.slice ka m.stks.length kc,.slice ra m.run.length rc,.int .i64 m.tag,.int .i64 m.call] 28)) (.cells #[.slice none 0 0,.int .i64 0,.slice none 0 0,.slice none 0 0,.int .i64 0,.int .i64 0] 28)) (w.heap.size) 28 #[.slice aa m.mem.al.length ac,.int .i64 m.mem.next,.slice ka m.stks.length kc,.slice ra m.run.length rc,.int .i64 m.tag,.int .i64 m.call]:=(by
  have h:=Box.new w 28 #[.slice aa m.mem.al.length ac,.int .i64 m.mem.next,.slice ka m.stks.length kc,.slice ra m.run.length rc,.int .i64 m.tag,.int .i64 m.call]
  replace h:=Box.ext h ((Ext.refl _).alloc (.cells #[.slice none 0 0,.int .i64 0,.slice none 0 0,.slice none 0 0,.int .i64 0,.int .i64 0] 28))
  exact h)
 have bR : Box (World.alloc (World.alloc w (.cells #[.slice aa m.mem.al.length ac,.int .i64 m.mem.next,.slice ka m.stks.length kc,.slice ra m.run.length rc,.int .i64 m.tag,.int .i64 m.call] 28)) (.cells #[.slice none 0 0,.int .i64 0,.slice none 0 0,.slice none 0 0,.int .i64 0,.int .i64 0] 28)) (w.heap.size+1) 28 #[.slice none 0 0,.int .i64 0,.slice none 0 0,.slice none 0 0,.int .i64 0,.int .i64 0]:=(by
  have h:=Box.new (World.alloc w (.cells #[.slice aa m.mem.al.length ac,.int .i64 m.mem.next,.slice ka m.stks.length kc,.slice ra m.run.length rc,.int .i64 m.tag,.int .i64 m.call] 28)) 28 #[.slice none 0 0,.int .i64 0,.slice none 0 0,.slice none 0 0,.int .i64 0,.int .i64 0]
  simp only [World.size_alloc] at h
  exact h)
 obtain ⟨w0,hw0⟩ : ∃ z,(World.alloc (World.alloc w (.cells #[.slice aa m.mem.al.length ac,.int .i64 m.mem.next,.slice ka m.stks.length kc,.slice ra m.run.length rc,.int .i64 m.tag,.int .i64 m.call] 28)) (.cells #[.slice none 0 0,.int .i64 0,.slice none 0 0,.slice none 0 0,.int .i64 0,.int .i64 0] 28))=z:=⟨_,rfl⟩
 rw [hw0] at hE0 bM bR
 have hs0 : w0.heap.size=w.heap.size+2:=by rw [← hw0];simp
 replace hs0:=Lib.hid hs0
 replace hA:=Lib.hid hA
 replace hK:=Lib.hid hK
 replace hR:=Lib.hid hR
 replace hn:=Lib.hid hn
 cases hok : okMon m
 ·skip
  have hce:=Lib.hid (monErr_not hok)
  have hres:=Lib.hid (leaveM_bad hok)
  clear hok
  go_enter Try.func13,Try.ntmps13
  obtain ⟨bM_0,bM_1,bM_2,bM_3,bM_4,bM_5,bM_l⟩:=bM.c6
  go_wp2_with fail
  clear bM_0 bM_1 bM_2 bM_3 bM_4 bM_5 bM_l
  refine (mon_Check' (hA.out.ext hE0) hn.out (hK.out.ext hE0) (hR.out.ext hE0)).mono ?_
  rintro e w1 ⟨rfl,hE1⟩
  replace bM:=bM.ext hE1
  replace bR:=bR.ext hE1
  have hF1:=Ext.trans hE0 hE1
  rw [hce.out]
  clear hw0
  obtain ⟨bM_0,bM_1,bM_2,bM_3,bM_4,bM_5,bM_l⟩:=bM.c6
  have bR_0 : World.cell? w1 ⟨w.heap.size+1,0,none⟩=some (.slice none 0 0):=bR.cell 0
  have bR_1 : World.cell? w1 ⟨w.heap.size+1,1,none⟩=some (.int .i64 0):=bR.cell 1
  have bR_2 : World.cell? w1 ⟨w.heap.size+1,2,none⟩=some (.slice none 0 0):=bR.cell 2
  have bR_3 : World.cell? w1 ⟨w.heap.size+1,3,none⟩=some (.slice none 0 0):=bR.cell 3
  have bR_4 : World.cell? w1 ⟨w.heap.size+1,4,none⟩=some (.int .i64 0):=bR.cell 4
  have bR_5 : World.cell? w1 ⟨w.heap.size+1,5,none⟩=some (.int .i64 0):=bR.cell 5
  have bR_f0 : World.frozen? w1 ⟨w.heap.size+1,0,none⟩=false:=bR.frozen 0
  have bR_f1 : World.frozen? w1 ⟨w.heap.size+1,1,none⟩=false:=bR.frozen 1
  have bR_f2 : World.frozen? w1 ⟨w.heap.size+1,2,none⟩=false:=bR.frozen 2
  have bR_f3 : World.frozen? w1 ⟨w.heap.size+1,3,none⟩=false:=bR.frozen 3
  have bR_f4 : World.frozen? w1 ⟨w.heap.size+1,4,none⟩=false:=bR.frozen 4
  have bR_f5 : World.frozen? w1 ⟨w.heap.size+1,5,none⟩=false:=bR.frozen 5
  have bR_l:=bR.lt
  go_wp2
  rw [hres.out]
  have hXe : ExtBut (fun b=>w.heap.size≤b∧b < w.heap.size+2) w1 (World.setCell (World.setCell (World.setCell (World.setCell (World.setCell (World.setCell w1 ⟨w.heap.size+1,0,none⟩ (.slice none 0 0)) ⟨w.heap.size+1,1,none⟩ (.int .i64 0)) ⟨w.heap.size+1,2,none⟩ (.slice none 0 0)) ⟨w.heap.size+1,3,none⟩ (.slice none 0 0)) ⟨w.heap.size+1,4,none⟩ (.int .i64 0)) ⟨w.heap.size+1,5,none⟩ (.int .i64 0)):=by (repeat' with_reducible first | exact ExtBut.refl _ _ | refine ExtBut.dr ?_ | refine ExtBut.sc ?_ ?_ | fail) <;> dsimp only <;> omega
  refine bodyPost_ret (v := .tuple #[.agg #[.slice none 0 0,.int .i64 0,.slice none 0 0,.slice none 0 0,.int .i64 0,.int .i64 0],.int .i64 8]) (by simp [results,Try.f13,go_sem,bR_0,bR_1,bR_2,bR_3,bR_4,bR_5]) rfl ?_
  have hFe:=ExtBut.ext hF1 hXe (fun b h=>h.1)
  exact ⟨_,rfl,FrMon.zero _ _,hFe⟩
 have hMok:=MonOk.of hok
 have hce:=Lib.hid (monErr_of hok)
 have hcl:=Lib.hid hMok.small
 have hen:=hMok.leave
 by_cases hl : m.run.length=0
 ·skip
  rw [if_pos hl] at hen
  replace hen:=Lib.hid hen
  have hres:=Lib.hid (leaveM_none hok hl)
  clear hok hMok hl
  go_enter Try.func13,Try.ntmps13
  obtain ⟨bM_0,bM_1,bM_2,bM_3,bM_4,bM_5,bM_l⟩:=bM.c6
  go_wp2_with fail
  clear bM_0 bM_1 bM_2 bM_3 bM_4 bM_5 bM_l
  refine (mon_Check' (hA.out.ext hE0) hn.out (hK.out.ext hE0) (hR.out.ext hE0)).mono ?_
  rintro e w1 ⟨rfl,hE1⟩
  replace bM:=bM.ext hE1
  replace bR:=bR.ext hE1
  have hF1:=Ext.trans hE0 hE1
  rw [hce.out]
  clear hw0
  obtain ⟨bM_0,bM_1,bM_2,bM_3,bM_4,bM_5,bM_l⟩:=bM.c6
  go_wp2_with fail
  clear bM_0 bM_1 bM_2 bM_3 bM_4 bM_5 bM_l
  have hXns:=Lib.hid (by have:=bR.lt;omega : w.heap.size+2≤w1.heap.size)
  refine (guard_LeaveF (hR.out.ext hF1)).mono ?_
  rintro e w2 ⟨vn,rfl,hvn,hE2⟩
  replace bM:=bM.ext hE2
  replace bR:=bR.ext hE2
  have hF2:=Ext.trans hF1 hE2
  rw [hen.out] at hvn ⊢
  have hv:=hvn.read.form
  obtain ⟨na,nc,rfl,-⟩:=hv
  dsimp only [List.length] at hvn ⊢
  have hN:=Lib.hid hvn
  clear hvn
  have hXn:=Lib.hid (ExtBut.refl (fun b=>w.heap.size≤b∧b < w.heap.size+2) w2)
  obtain ⟨bM_0,bM_1,bM_2,bM_3,bM_4,bM_5,bM_l⟩:=bM.c6
  have bR_0 : World.cell? w2 ⟨w.heap.size+1,0,none⟩=some (.slice none 0 0):=bR.cell 0
  have bR_1 : World.cell? w2 ⟨w.heap.size+1,1,none⟩=some (.int .i64 0):=bR.cell 1
  have bR_2 : World.cell? w2 ⟨w.heap.size+1,2,none⟩=some (.slice none 0 0):=bR.cell 2
  have bR_3 : World.cell? w2 ⟨w.heap.size+1,3,none⟩=some (.slice none 0 0):=bR.cell 3
  have bR_4 : World.cell? w2 ⟨w.heap.size+1,4,none⟩=some (.int .i64 0):=bR.cell 4
  have bR_5 : World.cell? w2 ⟨w.heap.size+1,5,none⟩=some (.int .i64 0):=bR.cell 5
  have bR_f0 : World.frozen? w2 ⟨w.heap.size+1,0,none⟩=false:=bR.frozen 0
  have bR_f1 : World.frozen? w2 ⟨w.heap.size+1,1,none⟩=false:=bR.frozen 1
  have bR_f2 : World.frozen? w2 ⟨w.heap.size+1,2,none⟩=false:=bR.frozen 2
  have bR_f3 : World.frozen? w2 ⟨w.heap.size+1,3,none⟩=false:=bR.frozen 3
  have bR_f4 : World.frozen? w2 ⟨w.heap.size+1,4,none⟩=false:=bR.frozen 4
  have bR_f5 : World.frozen? w2 ⟨w.heap.size+1,5,none⟩=false:=bR.frozen 5
  have bR_l:=bR.lt
  go_wp2
  rw [hres.out]
  have hXe : ExtBut (fun b=>w.heap.size≤b∧b < w.heap.size+2) w2 (World.setCell (World.setCell (World.setCell (World.setCell (World.setCell (World.setCell w2 ⟨w.heap.size+1,0,none⟩ (.slice none 0 0)) ⟨w.heap.size+1,1,none⟩ (.int .i64 0)) ⟨w.heap.size+1,2,none⟩ (.slice none 0 0)) ⟨w.heap.size+1,3,none⟩ (.slice none 0 0)) ⟨w.heap.size+1,4,none⟩ (.int .i64 0)) ⟨w.heap.size+1,5,none⟩ (.int .i64 0)):=by (repeat' with_reducible first | exact ExtBut.refl _ _ | refine ExtBut.dr ?_ | refine ExtBut.sc ?_ ?_ | fail) <;> dsimp only <;> omega
  refine bodyPost_ret (v := .tuple #[.agg #[.slice none 0 0,.int .i64 0,.slice none 0 0,.slice none 0 0,.int .i64 0,.int .i64 0],.int .i64 6]) (by simp [results,Try.f13,go_sem,bR_0,bR_1,bR_2,bR_3,bR_4,bR_5]) rfl ?_
  have hFe:=ExtBut.ext hF2 hXe (fun b h=>h.1)
  have hXne:=ExtBut.trans hXn.out hXe
  exact ⟨_,rfl,FrMon.zero _ _,hFe⟩
 rw [if_neg hl] at hen
 have hres:=leaveM_ok hok hl
 obtain ⟨RT,hRT⟩ : ∃ z,m.run.take (m.run.length - 1)=z:=⟨_,rfl⟩
 rw [hRT] at hen hres
 replace hen:=Lib.hid hen;replace hres:=Lib.hid hres
 clear hok hMok hl hRT
 go_enter Try.func13,Try.ntmps13
 obtain ⟨bM_0,bM_1,bM_2,bM_3,bM_4,bM_5,bM_l⟩:=bM.c6
 go_wp2_with fail
 clear bM_0 bM_1 bM_2 bM_3 bM_4 bM_5 bM_l
 refine (mon_Check' (hA.out.ext hE0) hn.out (hK.out.ext hE0) (hR.out.ext hE0)).mono ?_
 rintro e w1 ⟨rfl,hE1⟩
 replace bM:=bM.ext hE1
 replace bR:=bR.ext hE1
 have hF1:=Ext.trans hE0 hE1
 rw [hce.out]
 clear hw0
 obtain ⟨bM_0,bM_1,bM_2,bM_3,bM_4,bM_5,bM_l⟩:=bM.c6
 go_wp2_with fail
 clear bM_0 bM_1 bM_2 bM_3 bM_4 bM_5 bM_l
 have hXns:=Lib.hid (by have:=bR.lt;omega : w.heap.size+2≤w1.heap.size)
 refine (guard_LeaveF (hR.out.ext hF1)).mono ?_
 rintro e w2 ⟨vn,rfl,hvn,hE2⟩
 replace bM:=bM.ext hE2
 replace bR:=bR.ext hE2
 have hF2:=Ext.trans hF1 hE2
 rw [hen.out] at hvn ⊢
 have hv:=hvn.read.form
 obtain ⟨na,nc,rfl,-⟩:=hv
 skip
 have hN:=Lib.hid hvn
 clear hvn
 have hXn:=Lib.hid (ExtBut.refl (fun b=>w.heap.size≤b∧b < w.heap.size+2) w2)
 obtain ⟨bM_0,bM_1,bM_2,bM_3,bM_4,bM_5,bM_l⟩:=bM.c6
 go_wp2_with fail
 clear bM_0 bM_1 bM_2 bM_3 bM_4 bM_5 bM_l
 have hXcs:=Lib.hid (by have:=bR.lt;omega : w.heap.size+2≤w2.heap.size)
 have hXn_hXc:=Lib.hid hXn.out.size
 refine (monitor_clone (hA.out.ext hF2) (hK.out.ext hF2) (hR.out.ext hF2) hcl.out.1 hcl.out.2.1 hcl.out.2.2).mono ?_
 rintro e w3 ⟨c,ca,ck,cr,vs,rfl,hC,hE3⟩
 replace bM:=bM.ext hE3
 replace bR:=bR.ext hE3
 replace hXn:=Lib.hid (ExtBut.trans hXn.out (ExtBut.of_ext hE3))
 have hF3:=Ext.trans hF2 hE3
 have hv:=hC.al.read.form
 obtain ⟨ca,cac,rfl,-⟩:=hv
 have hv:=hC.outer.sl.slice_form
 obtain ⟨ck,ckc,rfl,-⟩:=hv
 have hv:=hC.run.read.form
 obtain ⟨cr,crc,rfl,-⟩:=hv
 replace hC:=Lib.hid hC
 have hXc:=Lib.hid (ExtBut.refl (fun b=>w.heap.size≤b∧b < w.heap.size+2) w3)
 have bM_0 : World.cell? w3 ⟨w.heap.size,0,none⟩=some (.slice aa m.mem.al.length ac):=bM.cell 0
 have bM_1 : World.cell? w3 ⟨w.heap.size,1,none⟩=some (.int .i64 m.mem.next):=bM.cell 1
 have bM_2 : World.cell? w3 ⟨w.heap.size,2,none⟩=some (.slice ka m.stks.length kc):=bM.cell 2
 have bM_3 : World.cell? w3 ⟨w.heap.size,3,none⟩=some (.slice ra m.run.length rc):=bM.cell 3
 have bM_4 : World.cell? w3 ⟨w.heap.size,4,none⟩=some (.int .i64 m.tag):=bM.cell 4
 have bM_5 : World.cell? w3 ⟨w.heap.size,5,none⟩=some (.int .i64 m.call):=bM.cell 5
 have bM_f0 : World.frozen? w3 ⟨w.heap.size,0,none⟩=false:=bM.frozen 0
 have bM_f1 : World.frozen? w3 ⟨w.heap.size,1,none⟩=false:=bM.frozen 1
 have bM_f2 : World.frozen? w3 ⟨w.heap.size,2,none⟩=false:=bM.frozen 2
 have bM_f3 : World.frozen? w3 ⟨w.heap.size,3,none⟩=false:=bM.frozen 3
 have bM_f4 : World.frozen? w3 ⟨w.heap.size,4,none⟩=false:=bM.frozen 4
 have bM_f5 : World.frozen? w3 ⟨w.heap.size,5,none⟩=false:=bM.frozen 5
 have bM_l:=bM.lt
 go_upto_region 8 with fail
 clear bM_0 bM_1 bM_2 bM_3 bM_4 bM_5 bM_f0 bM_f1 bM_f2 bM_f3 bM_f4 bM_f5 bM_l
 have hS4 : ExtBut (fun b=>w.heap.size≤b∧b < w.heap.size+2) w3 (World.setCell (World.setCell (World.setCell (World.setCell (World.setCell (World.setCell w3 ⟨w.heap.size,0,none⟩ (.slice ca m.mem.al.length cac)) ⟨w.heap.size,1,none⟩ (.int .i64 m.mem.next)) ⟨w.heap.size,2,none⟩ (.slice ck m.stks.length ckc)) ⟨w.heap.size,3,none⟩ (.slice cr m.run.length crc)) ⟨w.heap.size,4,none⟩ (.int .i64 m.tag)) ⟨w.heap.size,5,none⟩ (.int .i64 m.call)):=by (repeat' with_reducible first | exact ExtBut.refl _ _ | refine ExtBut.dr ?_ | refine ExtBut.sc ?_ ?_ | fail) <;> dsimp only <;> omega
 replace bM:=(Box.setL (Box.setL (Box.setL (Box.setL (Box.setL (Box.setL bM 0 (.slice ca m.mem.al.length cac)) 1 (.int .i64 m.mem.next)) 2 (.slice ck m.stks.length ckc)) 3 (.slice cr m.run.length crc)) 4 (.int .i64 m.tag)) 5 (.int .i64 m.call))
 simp only [List.set_cons_zero,List.set_cons_succ] at bM
 replace bR:=(Box.other (Box.other (Box.other (Box.other (Box.other (Box.other bR (p:=⟨w.heap.size,0,none⟩) (by simp) (.slice ca m.mem.al.length cac)) (p:=⟨w.heap.size,1,none⟩) (by simp) (.int .i64 m.mem.next)) (p:=⟨w.heap.size,2,none⟩) (by simp) (.slice ck m.stks.length ckc)) (p:=⟨w.heap.size,3,none⟩) (by simp) (.slice cr m.run.length crc)) (p:=⟨w.heap.size,4,none⟩) (by simp) (.int .i64 m.tag)) (p:=⟨w.heap.size,5,none⟩) (by simp) (.int .i64 m.call))
 obtain ⟨w4s,hw4⟩ : ∃ z,(World.setCell (World.setCell (World.setCell (World.setCell (World.setCell (World.setCell w3 ⟨w.heap.size,0,none⟩ (.slice ca m.mem.al.length cac)) ⟨w.heap.size,1,none⟩ (.int .i64 m.mem.next)) ⟨w.heap.size,2,none⟩ (.slice ck m.stks.length ckc)) ⟨w.heap.size,3,none⟩ (.slice cr m.run.length crc)) ⟨w.heap.size,4,none⟩ (.int .i64 m.tag)) ⟨w.heap.size,5,none⟩ (.int .i64 m.call))=z:=⟨_,rfl⟩
 rw [hw4] at hS4 bM bR ⊢
 clear hw4
 have hF4:=ExtBut.ext hF3 hS4 (fun b h=>h.1)
 replace hXn:=Lib.hid (ExtBut.trans hXn.out hS4)
 replace hXc:=Lib.hid (ExtBut.trans hXc.out hS4)
 clear hS4
 have bM_0 : World.cell? w4s ⟨w.heap.size,0,none⟩=some (.slice ca m.mem.al.length cac):=bM.cell 0
 have bM_1 : World.cell? w4s ⟨w.heap.size,1,none⟩=some (.int .i64 m.mem.next):=bM.cell 1
 have bM_2 : World.cell? w4s ⟨w.heap.size,2,none⟩=some (.slice ck m.stks.length ckc):=bM.cell 2
 have bM_3 : World.cell? w4s ⟨w.heap.size,3,none⟩=some (.slice cr m.run.length crc):=bM.cell 3
 have bM_4 : World.cell? w4s ⟨w.heap.size,4,none⟩=some (.int .i64 m.tag):=bM.cell 4
 have bM_5 : World.cell? w4s ⟨w.heap.size,5,none⟩=some (.int .i64 m.call):=bM.cell 5
 have bM_f0 : World.frozen? w4s ⟨w.heap.size,0,none⟩=false:=bM.frozen 0
 have bM_f1 : World.frozen? w4s ⟨w.heap.size,1,none⟩=false:=bM.frozen 1
 have bM_f2 : World.frozen? w4s ⟨w.heap.size,2,none⟩=false:=bM.frozen 2
 have bM_f3 : World.frozen? w4s ⟨w.heap.size,3,none⟩=false:=bM.frozen 3
 have bM_f4 : World.frozen? w4s ⟨w.heap.size,4,none⟩=false:=bM.frozen 4
 have bM_f5 : World.frozen? w4s ⟨w.heap.size,5,none⟩=false:=bM.frozen 5
 have bM_l:=bM.lt
 go_upto_region 9 with fail
 clear bM_0 bM_1 bM_2 bM_3 bM_4 bM_5 bM_f0 bM_f1 bM_f2 bM_f3 bM_f4 bM_f5 bM_l
 have hS5 : ExtBut (fun b=>w.heap.size≤b∧b < w.heap.size+2) w4s (World.setCell w4s ⟨w.heap.size,3,none⟩ (.slice na RT.length nc)):=((ExtBut.setCell w4s ⟨w.heap.size,3,none⟩ (.slice na RT.length nc)).mono (S':=(fun b=>w.heap.size≤b∧b < w.heap.size+2)) (fun b _ h=>by have h' : b=w.heap.size:=h;omega))
 replace bM:=(Box.setL bM 3 (.slice na RT.length nc))
 simp only [List.set_cons_zero,List.set_cons_succ] at bM
 replace bR:=(Box.other bR (p:=⟨w.heap.size,3,none⟩) (by simp) (.slice na RT.length nc))
 obtain ⟨w5s,hw5⟩ : ∃ z,(World.setCell w4s ⟨w.heap.size,3,none⟩ (.slice na RT.length nc))=z:=⟨_,rfl⟩
 rw [hw5] at hS5 bM bR ⊢
 clear hw5
 have hF5:=ExtBut.ext hF4 hS5 (fun b h=>h.1)
 replace hXn:=Lib.hid (ExtBut.trans hXn.out hS5)
 replace hXc:=Lib.hid (ExtBut.trans hXc.out hS5)
 clear hS5
 obtain ⟨bM_0,bM_1,bM_2,bM_3,bM_4,bM_5,bM_l⟩:=bM.c6
 have bR_0 : World.cell? w5s ⟨w.heap.size+1,0,none⟩=some (.slice none 0 0):=bR.cell 0
 have bR_1 : World.cell? w5s ⟨w.heap.size+1,1,none⟩=some (.int .i64 0):=bR.cell 1
 have bR_2 : World.cell? w5s ⟨w.heap.size+1,2,none⟩=some (.slice none 0 0):=bR.cell 2
 have bR_3 : World.cell? w5s ⟨w.heap.size+1,3,none⟩=some (.slice none 0 0):=bR.cell 3
 have bR_4 : World.cell? w5s ⟨w.heap.size+1,4,none⟩=some (.int .i64 0):=bR.cell 4
 have bR_5 : World.cell? w5s ⟨w.heap.size+1,5,none⟩=some (.int .i64 0):=bR.cell 5
 have bR_f0 : World.frozen? w5s ⟨w.heap.size+1,0,none⟩=false:=bR.frozen 0
 have bR_f1 : World.frozen? w5s ⟨w.heap.size+1,1,none⟩=false:=bR.frozen 1
 have bR_f2 : World.frozen? w5s ⟨w.heap.size+1,2,none⟩=false:=bR.frozen 2
 have bR_f3 : World.frozen? w5s ⟨w.heap.size+1,3,none⟩=false:=bR.frozen 3
 have bR_f4 : World.frozen? w5s ⟨w.heap.size+1,4,none⟩=false:=bR.frozen 4
 have bR_f5 : World.frozen? w5s ⟨w.heap.size+1,5,none⟩=false:=bR.frozen 5
 have bR_l:=bR.lt
 go_wp2
 rw [hres.out]
 have hXe : ExtBut (fun b=>w.heap.size≤b∧b < w.heap.size+2) w5s (World.setCell (World.setCell (World.setCell (World.setCell (World.setCell (World.setCell w5s ⟨w.heap.size+1,0,none⟩ (.slice ca m.mem.al.length cac)) ⟨w.heap.size+1,1,none⟩ (.int .i64 m.mem.next)) ⟨w.heap.size+1,2,none⟩ (.slice ck m.stks.length ckc)) ⟨w.heap.size+1,3,none⟩ (.slice na RT.length nc)) ⟨w.heap.size+1,4,none⟩ (.int .i64 m.tag)) ⟨w.heap.size+1,5,none⟩ (.int .i64 m.call)):=by (repeat' with_reducible first | exact ExtBut.refl _ _ | refine ExtBut.dr ?_ | refine ExtBut.sc ?_ ?_ | fail) <;> dsimp only <;> omega
 refine bodyPost_ret (v := .tuple #[.agg #[.slice ca m.mem.al.length cac,.int .i64 m.mem.next,.slice ck m.stks.length ckc,.slice na RT.length nc,.int .i64 m.tag,.int .i64 m.call],.int .i64 0]) (by simp [results,Try.f13,go_sem,bR_0,bR_1,bR_2,bR_3,bR_4,bR_5]) rfl ?_
 have hFe:=ExtBut.ext hF5 hXe (fun b h=>h.1)
 have hXne:=ExtBut.trans hXn.out hXe
 have hXce:=ExtBut.trans hXc.out hXe
 exact ⟨_,rfl,FrMon.of_fs (m:=⟨m.mem,m.stks,RT,m.tag,m.call⟩) (hC.out.al.to (S':=fun b=>w.heap.size≤b) hXce (fun b h1 _ h2=>by have:=hXcs.out;omega) (fun b h1 _=>by have:=hXcs.out;omega)) ((OwnK.fs (Cloned.own hC.out)).to (S':=fun b=>w.heap.size≤b) hXce (fun b h1 _ h2=>by have:=hXcs.out;omega) (fun b h1 _=>by have:=hXcs.out;omega)) (hN.out.to (S':=fun b=>w.heap.size≤b) hXne (fun b h1 _ h2=>by have:=hXns.out;omega) (fun b h1 _=>by have:=hXns.out;omega)),hFe⟩
end Go.Proofs.Ytnplphcnagooeaa

/- Contracts: the reference's Same and Great of layer 35. (printed by gen/ref35d.py) -/
namespace Go.Proofs.Ytnplphcnagooeaa
set_option maxRecDepth 100000
open Go.RowKit
def notGreat (m : Mon) : Prop:=greatM m.mem.al=false∧m.stks.length≤410∧m.run.length≤50 ∧ ∀ x ∈ m.stks,greatK x.cells=false
theorem greatK_small {l : List (List Item)} (h : greatK l=false) : l.length≤4 ∧ ∀ s ∈ l,s.length≤2000:=by
 unfold greatK at h
 simp only [Bool.or_eq_false_iff,decide_eq_false_iff_not] at h
 refine ⟨by omega,fun s hs => ?_⟩
 have h1:=List.any_eq_false.1 h.1 s (by rw [List.take_of_length_le (by omega)];exact hs)
 simp [wideS] at h1
 omega
set_option maxRecDepth 100000 in
set_option maxHeartbeats 6400000 in
theorem ref35_Same {m : Mon} {va vb : Value} {wS : World} (ha : RdMon wS va m) (hb : RdMon wS vb m) : Calls Try.prog 8 #[va,vb] wS fun e w'=>e = .returned (.bool true)∧Ext wS w':=by
 obtain ⟨sa,ss,sr,rfl,hA,hK,hR⟩:=ha
 obtain ⟨sa2,ss2,sr2,rfl,hA2,hK2,hR2⟩:=hb
 obtain ⟨aa,ac,rfl,hac,hacm,-⟩:=hA.form
 obtain ⟨ka,kc,rfl,hkc,hkcm,-⟩:=hK.form
 obtain ⟨ra,rc,rfl,hrc,hrcm,-⟩:=hR.form
 obtain ⟨a2,ac2,rfl,-⟩:=hA2.form
 obtain ⟨ka2,kc2,rfl,hkc2,-⟩:=hK2.form
 obtain ⟨ra2,rc2,rfl,-⟩:=hR2.form
 unfold maxLen at hacm hkcm hrcm
 replace hA:=Lib.hid hA;replace hK:=Lib.hid hK;replace hR:=Lib.hid hR;replace hA2:=Lib.hid hA2;replace hK2:=Lib.hid hK2;replace hR2:=Lib.hid hR2
 have hE0 : Ext wS (World.alloc (World.alloc wS (.cells #[.slice aa m.mem.al.length ac,.int .i64 m.mem.next,.slice ka m.stks.length kc,.slice ra m.run.length rc,.int .i64 m.tag,.int .i64 m.call] 28)) (.cells #[.slice a2 m.mem.al.length ac2,.int .i64 m.mem.next,.slice ka2 m.stks.length kc2,.slice ra2 m.run.length rc2,.int .i64 m.tag,.int .i64 m.call] 28)):=by repeat (first | exact Ext.refl _ | refine Ext.alloc ?_ _)
 have bA : Box (World.alloc (World.alloc wS (.cells #[.slice aa m.mem.al.length ac,.int .i64 m.mem.next,.slice ka m.stks.length kc,.slice ra m.run.length rc,.int .i64 m.tag,.int .i64 m.call] 28)) (.cells #[.slice a2 m.mem.al.length ac2,.int .i64 m.mem.next,.slice ka2 m.stks.length kc2,.slice ra2 m.run.length rc2,.int .i64 m.tag,.int .i64 m.call] 28)) (wS.heap.size) 28 #[.slice aa m.mem.al.length ac,.int .i64 m.mem.next,.slice ka m.stks.length kc,.slice ra m.run.length rc,.int .i64 m.tag,.int .i64 m.call]:=(by
  have h:=Box.new wS 28 #[.slice aa m.mem.al.length ac,.int .i64 m.mem.next,.slice ka m.stks.length kc,.slice ra m.run.length rc,.int .i64 m.tag,.int .i64 m.call]
  replace h:=Box.ext h ((Ext.refl _).alloc (.cells #[.slice a2 m.mem.al.length ac2,.int .i64 m.mem.next,.slice ka2 m.stks.length kc2,.slice ra2 m.run.length rc2,.int .i64 m.tag,.int .i64 m.call] 28))
  exact h)
 have bB : Box (World.alloc (World.alloc wS (.cells #[.slice aa m.mem.al.length ac,.int .i64 m.mem.next,.slice ka m.stks.length kc,.slice ra m.run.length rc,.int .i64 m.tag,.int .i64 m.call] 28)) (.cells #[.slice a2 m.mem.al.length ac2,.int .i64 m.mem.next,.slice ka2 m.stks.length kc2,.slice ra2 m.run.length rc2,.int .i64 m.tag,.int .i64 m.call] 28)) (wS.heap.size+1) 28 #[.slice a2 m.mem.al.length ac2,.int .i64 m.mem.next,.slice ka2 m.stks.length kc2,.slice ra2 m.run.length rc2,.int .i64 m.tag,.int .i64 m.call]:=(by
  have h:=Box.new (World.alloc wS (.cells #[.slice aa m.mem.al.length ac,.int .i64 m.mem.next,.slice ka m.stks.length kc,.slice ra m.run.length rc,.int .i64 m.tag,.int .i64 m.call] 28)) 28 #[.slice a2 m.mem.al.length ac2,.int .i64 m.mem.next,.slice ka2 m.stks.length kc2,.slice ra2 m.run.length rc2,.int .i64 m.tag,.int .i64 m.call]
  simp only [World.size_alloc] at h
  exact h)
 obtain ⟨w0,hw0⟩ : ∃ z,(World.alloc (World.alloc wS (.cells #[.slice aa m.mem.al.length ac,.int .i64 m.mem.next,.slice ka m.stks.length kc,.slice ra m.run.length rc,.int .i64 m.tag,.int .i64 m.call] 28)) (.cells #[.slice a2 m.mem.al.length ac2,.int .i64 m.mem.next,.slice ka2 m.stks.length kc2,.slice ra2 m.run.length rc2,.int .i64 m.tag,.int .i64 m.call] 28))=z:=⟨_,rfl⟩
 rw [hw0] at hE0 bA bB
 have hs0 : w0.heap.size=wS.heap.size+2:=by rw [← hw0];simp
 replace hs0:=Lib.hid hs0
 go_enter Try.func8,Try.ntmps8
 obtain ⟨bA_0,bA_1,bA_2,bA_3,bA_4,bA_5,bA_l⟩:=bA.c6
 obtain ⟨bB_0,bB_1,bB_2,bB_3,bB_4,bB_5,bB_l⟩:=bB.c6
 go_wp2_with fail
 clear bA_0 bA_1 bA_2 bA_3 bA_4 bA_5 bA_l bB_0 bB_1 bB_2 bB_3 bB_4 bB_5 bB_l
 refine (ref26_Same (hA.out.ext hE0) (hA2.out.ext hE0)).mono ?_
 rintro e w1 ⟨rfl,hE1⟩
 replace bA:=bA.ext hE1
 replace bB:=bB.ext hE1
 have hF1:=Ext.trans hE0 hE1
 clear hw0
 obtain ⟨bA_0,bA_1,bA_2,bA_3,bA_4,bA_5,bA_l⟩:=bA.c6
 obtain ⟨bB_0,bB_1,bB_2,bB_3,bB_4,bB_5,bB_l⟩:=bB.c6
 go_wp2_with fail
 clear bA_0 bA_1 bA_2 bA_3 bA_4 bA_5 bA_l bB_0 bB_1 bB_2 bB_3 bB_4 bB_5 bB_l
 refine (ref31_SameInts (hR.out.ext hF1) (hR2.out.ext hF1)).mono ?_
 rintro e w2 ⟨rfl,hE2⟩
 replace bA:=bA.ext hE2
 replace bB:=bB.ext hE2
 have hF2:=Ext.trans hF1 hE2
 obtain ⟨bA_0,bA_1,bA_2,bA_3,bA_4,bA_5,bA_l⟩:=bA.c6
 obtain ⟨bB_0,bB_1,bB_2,bB_3,bB_4,bB_5,bB_l⟩:=bB.c6
 go_wp2
 clear bA_0 bA_1 bA_2 bA_3 bA_4 bA_5 bA_l bB_0 bB_1 bB_2 bB_3 bB_4 bB_5 bB_l
 go_loopw [5] (fun iv wr => ∃ i : Nat,i≤m.stks.length∧iv = .int .i64 i∧Ext w2 wr) (fun iv _=>m.stks.length - (intOf iv).toNat)
 case atStart=>exact ⟨0,Nat.zero_le _,rfl,Ext.refl _⟩
 case round =>
  obtain ⟨i,hi,rfl,hY⟩:=hrel
  obtain ⟨wi,hwi⟩ : ∃ z,wr=z:=⟨_,rfl⟩
  rw [hwi] at hY ⊢
  clear hwi
  replace bA:=bA.ext hY;replace bB:=bB.ext hY
  have hG:=Ext.trans hF2 hY
  by_cases hil : i < m.stks.length
  ·skip
   obtain ⟨x,hx⟩ : ∃ x,m.stks[i]? = some x:=⟨m.stks[i],by simp [hil]⟩
   obtain ⟨kb,ko,ks,rfl,hkb,k0,k1,hk1⟩:=(hK.out.ext hG).cell hx
   obtain ⟨kb2,ko2,ks2,rfl,hkb2,l0,l1,hk2⟩:=(hK2.out.ext hG).cell hx
   obtain ⟨sa,sc,rfl,-⟩:=hk1.form
   obtain ⟨sa2,sc2,rfl,-⟩:=hk2.form
   have hi0 : (0 : Int)≤(i : Int):=by omega
   have hi1 : (i : Int) < (m.stks.length : Int):=by omega
   replace hx:=Lib.hid hx;replace hk1:=Lib.hid hk1;replace hk2:=Lib.hid hk2
   obtain ⟨bA_0,bA_1,bA_2,bA_3,bA_4,bA_5,bA_l⟩:=bA.c6
   obtain ⟨bB_0,bB_1,bB_2,bB_3,bB_4,bB_5,bB_l⟩:=bB.c6
   go_upto_region 6 with fail
   clear bA_0 bA_1 bA_2 bA_3 bA_4 bA_5 bA_l bB_0 bB_1 bB_2 bB_3 bB_4 bB_5 bB_l
   have m2 : World.cell? wi ⟨wS.heap.size,2,none⟩=some (.slice (some ⟨kb,ko,none⟩) m.stks.length kc):=bA.cell 2
   have n2 : World.cell? wi ⟨wS.heap.size+1,2,none⟩=some (.slice (some ⟨kb2,ko2,none⟩) m.stks.length kc2):=bB.cell 2
   refine wp_region_go (L:=[Pr.eq (.pointer (some ⟨wS.heap.size,2,none⟩)),Pr.eq (.slice (some ⟨kb,ko,none⟩) m.stks.length kc),Pr.eq (.int .i64 (i : Int)),Pr.eq (.pointer (some ⟨kb,ko+i * 2,none⟩)),Pr.eq (.agg #[.int .i64 x.num,.slice sa x.cells.length sc]),Pr.eq (.pointer (some ⟨wS.heap.size+1,2,none⟩)),Pr.eq (.slice (some ⟨kb2,ko2,none⟩) m.stks.length kc2),Pr.eq (.int .i64 (i : Int)),Pr.eq (.pointer (some ⟨kb2,ko2+i * 2,none⟩)),Pr.eq (.agg #[.int .i64 x.num,.slice sa2 x.cells.length sc2]),Pr.eq (.bool true),Pr.eq (.bool false)]) (by kernel_rfl) (by kernel_rfl) ?_ ?_
   ·refine ⟨?_,?_,?_,?_,?_,?_,?_,?_,?_,?_,?_,?_,trivial⟩
    ·intro a w hE hd ho
     refine .inl ⟨rfl,?_⟩
     intro Kq hKq
     have hF : Ext wi w:=Ext.trans ((Ext.refl _).drew) hE
     have e2 : a.eval (.tmp 2) = .pointer (some ⟨wS.heap.size,0,none⟩):=ho 2 (by kernel_rfl)
     rw [eval_tmp] at e2
     clear m2 n2 k0 k1 l0 l1
     clear hd ho
     replace hKq:=Lib.hid hKq
     go_simp
     exact hKq.out _ _ rfl (Ext.refl _)
    ·intro a w hE hd ho
     refine .inl ⟨rfl,?_⟩
     intro Kq hKq
     have hF : Ext wi w:=Ext.trans ((Ext.refl _).drew) hE
     have e50 : a.eval (.tmp 50) = .pointer (some ⟨wS.heap.size,2,none⟩):=hd 0 (by kernel_rfl)
     rw [eval_tmp] at e50
     have m2w:=Ext.cell hF m2
     clear m2 n2 k0 k1 l0 l1
     clear hd ho
     replace hKq:=Lib.hid hKq
     go_simp
     exact hKq.out _ _ rfl (Ext.refl _)
    ·intro a w hE hd ho
     refine .inl ⟨rfl,?_⟩
     intro Kq hKq
     have hF : Ext wi w:=Ext.trans ((Ext.refl _).drew) hE
     have e5 : a.eval (.tmp 5) = .int .i64 (i : Int):=ho 5 (by kernel_rfl)
     rw [eval_tmp] at e5
     clear m2 n2 k0 k1 l0 l1
     clear hd ho
     replace hKq:=Lib.hid hKq
     go_simp
     exact hKq.out _ _ rfl (Ext.refl _)
    ·intro a w hE hd ho
     refine .inl ⟨rfl,?_⟩
     intro Kq hKq
     have hF : Ext wi w:=Ext.trans ((Ext.refl _).drew) hE
     have e51 : a.eval (.tmp 51) = .slice (some ⟨kb,ko,none⟩) m.stks.length kc:=hd 1 (by kernel_rfl)
     rw [eval_tmp] at e51
     have e52 : a.eval (.tmp 52) = .int .i64 (i : Int):=hd 2 (by kernel_rfl)
     rw [eval_tmp] at e52
     clear m2 n2 k0 k1 l0 l1
     clear hd ho
     replace hKq:=Lib.hid hKq
     go_simp
     exact hKq.out _ _ rfl (Ext.refl _)
    ·intro a w hE hd ho
     refine .inl ⟨rfl,?_⟩
     intro Kq hKq
     have hF : Ext wi w:=Ext.trans ((Ext.refl _).drew) hE
     have e53 : a.eval (.tmp 53) = .pointer (some ⟨kb,ko+i * 2,none⟩):=hd 3 (by kernel_rfl)
     rw [eval_tmp] at e53
     have k0w:=Ext.cell hF k0
     have k1w:=Ext.cell hF k1
     clear m2 n2 k0 k1 l0 l1
     clear hd ho
     replace hKq:=Lib.hid hKq
     go_simp
     exact hKq.out _ _ rfl (Ext.refl _)
    ·intro a w hE hd ho
     refine .inl ⟨rfl,?_⟩
     intro Kq hKq
     have hF : Ext wi w:=Ext.trans ((Ext.refl _).drew) hE
     have e3 : a.eval (.tmp 3) = .pointer (some ⟨wS.heap.size+1,0,none⟩):=ho 3 (by kernel_rfl)
     rw [eval_tmp] at e3
     clear m2 n2 k0 k1 l0 l1
     clear hd ho
     replace hKq:=Lib.hid hKq
     go_simp
     exact hKq.out _ _ rfl (Ext.refl _)
    ·intro a w hE hd ho
     refine .inl ⟨rfl,?_⟩
     intro Kq hKq
     have hF : Ext wi w:=Ext.trans ((Ext.refl _).drew) hE
     have e55 : a.eval (.tmp 55) = .pointer (some ⟨wS.heap.size+1,2,none⟩):=hd 5 (by kernel_rfl)
     rw [eval_tmp] at e55
     have n2w:=Ext.cell hF n2
     clear m2 n2 k0 k1 l0 l1
     clear hd ho
     replace hKq:=Lib.hid hKq
     go_simp
     exact hKq.out _ _ rfl (Ext.refl _)
    ·intro a w hE hd ho
     refine .inl ⟨rfl,?_⟩
     intro Kq hKq
     have hF : Ext wi w:=Ext.trans ((Ext.refl _).drew) hE
     have e5 : a.eval (.tmp 5) = .int .i64 (i : Int):=ho 5 (by kernel_rfl)
     rw [eval_tmp] at e5
     clear m2 n2 k0 k1 l0 l1
     clear hd ho
     replace hKq:=Lib.hid hKq
     go_simp
     exact hKq.out _ _ rfl (Ext.refl _)
    ·intro a w hE hd ho
     refine .inl ⟨rfl,?_⟩
     intro Kq hKq
     have hF : Ext wi w:=Ext.trans ((Ext.refl _).drew) hE
     have e56 : a.eval (.tmp 56) = .slice (some ⟨kb2,ko2,none⟩) m.stks.length kc2:=hd 6 (by kernel_rfl)
     rw [eval_tmp] at e56
     have e57 : a.eval (.tmp 57) = .int .i64 (i : Int):=hd 7 (by kernel_rfl)
     rw [eval_tmp] at e57
     clear m2 n2 k0 k1 l0 l1
     clear hd ho
     replace hKq:=Lib.hid hKq
     go_simp
     exact hKq.out _ _ rfl (Ext.refl _)
    ·intro a w hE hd ho
     refine .inl ⟨rfl,?_⟩
     intro Kq hKq
     have hF : Ext wi w:=Ext.trans ((Ext.refl _).drew) hE
     have e58 : a.eval (.tmp 58) = .pointer (some ⟨kb2,ko2+i * 2,none⟩):=hd 8 (by kernel_rfl)
     rw [eval_tmp] at e58
     have l0w:=Ext.cell hF l0
     have l1w:=Ext.cell hF l1
     clear m2 n2 k0 k1 l0 l1
     clear hd ho
     replace hKq:=Lib.hid hKq
     go_simp
     exact hKq.out _ _ rfl (Ext.refl _)
    ·intro a w hE hd ho
     refine .inl ⟨rfl,?_⟩
     intro Kq hKq
     have hF : Ext wi w:=Ext.trans ((Ext.refl _).drew) hE
     have e54 : a.eval (.tmp 54) = .agg #[.int .i64 x.num,.slice sa x.cells.length sc]:=hd 4 (by kernel_rfl)
     rw [eval_tmp] at e54
     have e59 : a.eval (.tmp 59) = .agg #[.int .i64 x.num,.slice sa2 x.cells.length sc2]:=hd 9 (by kernel_rfl)
     rw [eval_tmp] at e59
     clear m2 n2 k0 k1 l0 l1
     clear hd ho
     replace hKq:=Lib.hid hKq
     go_simp
     refine (ref33_Same (num:=x.num) (hk1.out.ext hF) (hk2.out.ext hF)).mono ?_
     rintro e wz ⟨rfl,hZ⟩
     go_simp
     exact hKq.out _ _ rfl hZ
    ·intro a w hE hd ho
     refine .inl ⟨rfl,?_⟩
     intro Kq hKq
     have hF : Ext wi w:=Ext.trans ((Ext.refl _).drew) hE
     have e60 : a.eval (.tmp 60) = .bool true:=hd 10 (by kernel_rfl)
     rw [eval_tmp] at e60
     clear m2 n2 k0 k1 l0 l1
     clear hd ho
     replace hKq:=Lib.hid hKq
     go_simp
     exact hKq.out _ _ rfl (Ext.refl _)
   ·intro vals wq hE hv
    have hF : Ext wi wq:=Ext.trans ((Ext.refl _).drew) hE
    have e11 : vals 11 = .bool false:=hv 11 (by decide)
    clear hv hE m2 n2 k0 k1 l0 l1
    simp only [putAll]
    go_simp
    try rw [e11]
    clear e11
    replace bA:=bA.ext hF
    replace bB:=bB.ext hF
    have hF3:=Ext.trans hG hF
    obtain ⟨bA_0,bA_1,bA_2,bA_3,bA_4,bA_5,bA_l⟩:=bA.c6
    obtain ⟨bB_0,bB_1,bB_2,bB_3,bB_4,bB_5,bB_l⟩:=bB.c6
    go_wp2
    go_roundw
    case rel=>exact ⟨i+1,by omega,by go_num,hY.trans hF⟩
    case measure=>simp [intOf];omega
  ·have hie : i=m.stks.length:=by omega
   subst hie
   have hil' : decide (m.stks.length < m.stks.length)=false:=decide_eq_false (by omega)
   obtain ⟨bA_0,bA_1,bA_2,bA_3,bA_4,bA_5,bA_l⟩:=bA.c6
   obtain ⟨bB_0,bB_1,bB_2,bB_3,bB_4,bB_5,bB_l⟩:=bB.c6
   go_wp2
   go_ret
   exact ⟨rfl,hG⟩
set_option maxRecDepth 100000 in
set_option maxHeartbeats 6400000 in
theorem ref35_Great {m : Mon} {sa ss sr : Value} {wS : World} (hA : Als wS sa m.mem.al) (hK : Kts wS ss m.stks) (hR : Nts wS sr m.run) :
  Calls Try.prog 4 #[.agg #[sa,.int .i64 m.mem.next,ss,sr,.int .i64 m.tag,.int .i64 m.call]] wS fun e w' => ∃ b,e = .returned (.bool b)∧(b=false→notGreat m)∧Ext wS w':=by
 obtain ⟨aa,ac,rfl,hac,hacm,-⟩:=hA.form
 obtain ⟨ka,kc,rfl,hkc,hkcm,-⟩:=hK.form
 obtain ⟨ra,rc,rfl,hrc,hrcm,-⟩:=hR.form
 unfold maxLen at hacm hkcm hrcm
 have hE0 : Ext wS (World.alloc wS (.cells #[.slice aa m.mem.al.length ac,.int .i64 m.mem.next,.slice ka m.stks.length kc,.slice ra m.run.length rc,.int .i64 m.tag,.int .i64 m.call] 28)):=by repeat (first | exact Ext.refl _ | refine Ext.alloc ?_ _)
 have bM : Box (World.alloc wS (.cells #[.slice aa m.mem.al.length ac,.int .i64 m.mem.next,.slice ka m.stks.length kc,.slice ra m.run.length rc,.int .i64 m.tag,.int .i64 m.call] 28)) (wS.heap.size) 28 #[.slice aa m.mem.al.length ac,.int .i64 m.mem.next,.slice ka m.stks.length kc,.slice ra m.run.length rc,.int .i64 m.tag,.int .i64 m.call]:=(by
  have h:=Box.new wS 28 #[.slice aa m.mem.al.length ac,.int .i64 m.mem.next,.slice ka m.stks.length kc,.slice ra m.run.length rc,.int .i64 m.tag,.int .i64 m.call]
  exact h)
 obtain ⟨w0,hw0⟩ : ∃ z,(World.alloc wS (.cells #[.slice aa m.mem.al.length ac,.int .i64 m.mem.next,.slice ka m.stks.length kc,.slice ra m.run.length rc,.int .i64 m.tag,.int .i64 m.call] 28))=z:=⟨_,rfl⟩
 rw [hw0] at hE0 bM
 have hs0 : w0.heap.size=wS.heap.size+1:=by rw [← hw0];simp
 replace hs0:=Lib.hid hs0
 replace hA:=Lib.hid hA
 replace hK:=Lib.hid hK
 replace hR:=Lib.hid hR
 cases hg : greatM m.mem.al
 rotate_left
 ·skip
  replace hg:=Lib.hid hg
  go_enter Try.func4,Try.ntmps4
  obtain ⟨bM_0,bM_1,bM_2,bM_3,bM_4,bM_5,bM_l⟩:=bM.c6
  go_wp2_with fail
  clear bM_0 bM_1 bM_2 bM_3 bM_4 bM_5 bM_l
  refine (ref26_Great (next:=m.mem.next) (hA.out.ext hE0)).mono ?_
  rintro e w1 ⟨rfl,hE1⟩
  replace bM:=bM.ext hE1
  have hF1:=Ext.trans hE0 hE1
  rw [hg.out]
  clear hw0
  obtain ⟨bM_0,bM_1,bM_2,bM_3,bM_4,bM_5,bM_l⟩:=bM.c6
  go_wp2
  clear bM_0 bM_1 bM_2 bM_3 bM_4 bM_5 bM_l
  go_ret
  exact ⟨true,rfl,fun h=>absurd h (by decide),hF1⟩
 replace hg:=Lib.hid hg
 by_cases hc1 : 410 < m.stks.length
 ·skip
  have c1 : decide (410 < m.stks.length)=true:=decide_eq_true hc1
  have ic1 : decide ((410 : Int) < (m.stks.length : Int))=true:=decide_eq_true (by omega)
  go_enter Try.func4,Try.ntmps4
  obtain ⟨bM_0,bM_1,bM_2,bM_3,bM_4,bM_5,bM_l⟩:=bM.c6
  go_wp2_with fail
  clear bM_0 bM_1 bM_2 bM_3 bM_4 bM_5 bM_l
  refine (ref26_Great (next:=m.mem.next) (hA.out.ext hE0)).mono ?_
  rintro e w1 ⟨rfl,hE1⟩
  replace bM:=bM.ext hE1
  have hF1:=Ext.trans hE0 hE1
  rw [hg.out]
  clear hw0
  obtain ⟨bM_0,bM_1,bM_2,bM_3,bM_4,bM_5,bM_l⟩:=bM.c6
  go_wp2
  clear bM_0 bM_1 bM_2 bM_3 bM_4 bM_5 bM_l
  go_ret
  exact ⟨true,rfl,fun h=>absurd h (by decide),hF1⟩
 have c1 : decide (410 < m.stks.length)=false:=decide_eq_false hc1
 have ic1 : decide ((410 : Int) < (m.stks.length : Int))=false:=decide_eq_false (by omega)
 by_cases hc2 : 50 < m.run.length
 ·skip
  have c2 : decide (50 < m.run.length)=true:=decide_eq_true hc2
  have ic2 : decide ((50 : Int) < (m.run.length : Int))=true:=decide_eq_true (by omega)
  go_enter Try.func4,Try.ntmps4
  obtain ⟨bM_0,bM_1,bM_2,bM_3,bM_4,bM_5,bM_l⟩:=bM.c6
  go_wp2_with fail
  clear bM_0 bM_1 bM_2 bM_3 bM_4 bM_5 bM_l
  refine (ref26_Great (next:=m.mem.next) (hA.out.ext hE0)).mono ?_
  rintro e w1 ⟨rfl,hE1⟩
  replace bM:=bM.ext hE1
  have hF1:=Ext.trans hE0 hE1
  rw [hg.out]
  clear hw0
  obtain ⟨bM_0,bM_1,bM_2,bM_3,bM_4,bM_5,bM_l⟩:=bM.c6
  go_wp2
  clear bM_0 bM_1 bM_2 bM_3 bM_4 bM_5 bM_l
  go_ret
  exact ⟨true,rfl,fun h=>absurd h (by decide),hF1⟩
 have c2 : decide (50 < m.run.length)=false:=decide_eq_false hc2
 have ic2 : decide ((50 : Int) < (m.run.length : Int))=false:=decide_eq_false (by omega)
 go_enter Try.func4,Try.ntmps4
 obtain ⟨bM_0,bM_1,bM_2,bM_3,bM_4,bM_5,bM_l⟩:=bM.c6
 go_wp2_with fail
 clear bM_0 bM_1 bM_2 bM_3 bM_4 bM_5 bM_l
 refine (ref26_Great (next:=m.mem.next) (hA.out.ext hE0)).mono ?_
 rintro e w1 ⟨rfl,hE1⟩
 replace bM:=bM.ext hE1
 have hF1:=Ext.trans hE0 hE1
 rw [hg.out]
 clear hw0
 obtain ⟨bM_0,bM_1,bM_2,bM_3,bM_4,bM_5,bM_l⟩:=bM.c6
 go_wp2
 clear bM_0 bM_1 bM_2 bM_3 bM_4 bM_5 bM_l
 go_loopw [3,4] (fun nv iv wr => ∃ i n : Nat,i≤m.stks.length∧nv = .int .i64 (n : Int)∧n≤i * 10000∧iv = .int .i64 i∧(∀ (j : Nat) (x : Stk),j < i→m.stks[j]? = some x→greatK x.cells=false)∧Ext w1 wr) (fun _ iv _=>m.stks.length - (intOf iv).toNat)
 case atStart=>exact ⟨0,0,Nat.zero_le _,rfl,Nat.le_refl _,rfl,fun j _ h=>by omega,Ext.refl _⟩
 case round =>
  obtain ⟨i,n,hi,rfl,hn,rfl,hgood,hY⟩:=hrel
  obtain ⟨wi,hwi⟩ : ∃ z,wr=z:=⟨_,rfl⟩
  rw [hwi] at hY ⊢
  clear hwi
  replace bM:=bM.ext hY
  have hG:=Ext.trans hF1 hY
  by_cases hil : i < m.stks.length
  ·skip
   obtain ⟨x,hx⟩ : ∃ x,m.stks[i]? = some x:=⟨m.stks[i],by simp [hil]⟩
   obtain ⟨kb,ko,ks,rfl,hkb,k0,k1,hk1⟩:=(hK.out.ext hG).cell hx
   obtain ⟨sa,sc,rfl,hsc,hscm,-⟩:=hk1.form
   unfold maxLen at hscm
   have hi0 : (0 : Int)≤(i : Int):=by omega
   have hi1 : (i : Int) < (m.stks.length : Int):=by omega
   have hgh:=Lib.hid hgood;have hxh:=Lib.hid hx;replace hk1:=Lib.hid hk1
   clear hgood hx
   cases hgk : greatK x.cells
   rotate_left
   ·skip
    replace hgk:=Lib.hid hgk
    obtain ⟨bM_0,bM_1,bM_2,bM_3,bM_4,bM_5,bM_l⟩:=bM.c6
    go_wp2_with fail
    clear bM_0 bM_1 bM_2 bM_3 bM_4 bM_5 bM_l
    refine (ref33_Great (num:=x.num) (hk1.out.ext (Ext.refl _))).mono ?_
    rintro e w5 ⟨rfl,hE5⟩
    rw [hgk.out]
    go_wp2
    go_ret
    exact ⟨true,rfl,fun h=>absurd h (by decide),hG.trans hE5⟩
   have hkb4:=greatK_small hgk
   have hl4:=hkb4.1
   have hw6:=Lib.hid hkb4.2
   clear hkb4
   have hnew : ∀ (j : Nat) (y : Stk),j < i+1→m.stks[j]? = some y→greatK y.cells=false:=fun j y hj hy=>by
    by_cases e : j=i
    ·subst e;rw [hxh.out] at hy;cases hy;exact hgk
    ·exact hgh.out j y (by omega) hy
   replace hnew:=Lib.hid hnew;replace hgk:=Lib.hid hgk
   obtain ⟨bM_0,bM_1,bM_2,bM_3,bM_4,bM_5,bM_l⟩:=bM.c6
   go_wp2_with fail
   clear bM_0 bM_1 bM_2 bM_3 bM_4 bM_5 bM_l
   refine (ref33_Great (num:=x.num) (hk1.out.ext (Ext.refl _))).mono ?_
   rintro e w5 ⟨rfl,hE5⟩
   rw [hgk.out]
   replace bM:=bM.ext hE5;replace k0:=hE5.cell k0;replace k1:=hE5.cell k1;replace hk1:=Lib.hid (hk1.out.ext hE5)
   replace hY:=hY.trans hE5;replace hG:=hG.trans hE5
   clear hE5 hkb
   obtain ⟨bM_0,bM_1,bM_2,bM_3,bM_4,bM_5,bM_l⟩:=bM.c6
   go_wp2
   clear bM_0 bM_1 bM_2 bM_3 bM_4 bM_5 bM_l
   go_loopw [3,5] (fun nv kv wr => ∃ k c : Nat,k≤x.cells.length∧nv = .int .i64 (c : Int)∧c≤i * 10000+k * 2000∧kv = .int .i64 k∧Ext w5 wr) (fun _ kv _=>x.cells.length - (intOf kv).toNat)
   case atStart=>exact ⟨0,n,Nat.zero_le _,rfl,by omega,rfl,Ext.refl _⟩
   case round =>
    obtain ⟨k,c,hk,rfl,hc,rfl,hZ⟩:=hrel
    obtain ⟨wk,hwk⟩ : ∃ z,wr=z:=⟨_,rfl⟩
    rw [hwk] at hZ ⊢
    clear hwk
    replace bM:=bM.ext hZ;replace k0:=hZ.cell k0;replace k1:=hZ.cell k1
    by_cases hkl : k < x.cells.length
    ·skip
     obtain ⟨s,hs⟩ : ∃ s,x.cells[k]? = some s:=⟨x.cells[k],by simp [hkl]⟩
     obtain ⟨ub,uo,us,rfl,hub,d0,hit⟩:=(hk1.out.ext hZ).cell hs
     obtain ⟨ia,ic,rfl,hic,hicm,-⟩:=hit.form
     have hs6 : s.length≤2000:=hw6.out s (List.mem_of_getElem? hs)
     have hk0 : (0 : Int)≤(k : Int):=by omega
     have hk1' : (k : Int) < (x.cells.length : Int):=by omega
     have hws : IntKind.i64.wrap ((c : Int)+(s.length : Int))=((c+s.length : Nat) : Int):=by rw [IntWalk.i64_in _ (by omega)];omega
     replace hs:=Lib.hid hs;replace hit:=Lib.hid hit
     obtain ⟨bM_0,bM_1,bM_2,bM_3,bM_4,bM_5,bM_l⟩:=bM.c6
     go_wp2
     go_roundw
     case rel=>exact ⟨k+1,c+s.length,by omega,by go_num,by omega,by go_num,hZ⟩
     case measure=>simp [intOf];omega
    ·have hke : k=x.cells.length:=by omega
     subst hke
     have hkl' : decide (x.cells.length < x.cells.length)=false:=decide_eq_false (by omega)
     obtain ⟨bM_0,bM_1,bM_2,bM_3,bM_4,bM_5,bM_l⟩:=bM.c6
     go_wp2
     go_roundw
     case rel=>exact ⟨i+1,c,by omega,by go_num,by omega,by go_num,hnew.out,hY.trans hZ⟩
     case measure=>simp [intOf];omega
  ·have hie : i=m.stks.length:=by omega
   subst hie
   have hil' : decide (m.stks.length < m.stks.length)=false:=decide_eq_false (by omega)
   have hgh:=Lib.hid hgood
   clear hgood
   obtain ⟨bM_0,bM_1,bM_2,bM_3,bM_4,bM_5,bM_l⟩:=bM.c6
   go_wp2
   go_ret
   exact ⟨decide (3000 < (n : Int)),rfl,fun _=>⟨hg.out,by omega,by omega,fun x hx=>by obtain ⟨j,hj⟩:=List.mem_iff_getElem?.1 hx;exact hgh.out j x (List.getElem?_eq_some_iff.1 hj).1 hj⟩,hG⟩
end Go.Proofs.Ytnplphcnagooeaa

/- What the reference's copy of a monitor is: tables that the call owns, running calls that it owns; no program in sight. -/
namespace Go.Proofs.Ytnplphcnagooeaa
set_option maxRecDepth 100000
open Go.RowKit
def tyB (w : World) (b : Nat) : Option TypeId:=match w.heap[b]? with
 | some (.cells _ e _)=>some e
 | _=>none
theorem Own.ty {w : World} {B : Nat} {e k n : Nat} {v : Value} {xs : List Value} (h : Own w B e k v n xs) {g : Nat} (hg : v.ownBlock=some g) : tyB w g=some e:=by
 rcases h.2 with ⟨rfl,-⟩ | ⟨g',cap,cur,rfl,-,hh,-⟩
 ·cases hg
 ·have e' : some g'=some g:=hg
  cases e'
  simp only [tyB,hh]
theorem Own.apart {w : World} {B B2 : Nat} {e e2 k k2 n n2 : Nat} {v u : Value} {xs ys : List Value} (h : Own w B e k v n xs) (h2 : Own w B2 e2 k2 u n2 ys) (he : e≠e2) {g : Nat} (hg : v.ownBlock=some g) : u.ownBlock≠some g:=fun hg2=>by
 have:=(h.ty hg).symm.trans (h2.ty hg2)
 exact he (by simpa using this)
theorem OM.ty {w : World} {B : Nat} {v : Value} {vs : List Value} {l : List Alloc} (h : OM w B v vs l) {s : Value} (hs : s ∈ vs) {g : Nat} (hg : s.ownBlock=some g) : tyB w g=some 111:=by
 obtain ⟨i,hi⟩:=List.mem_iff_getElem?.1 hs
 have hil:=(List.getElem?_eq_some_iff.1 hi).1
 rw [(All2.iff.1 h.inner).1] at hil
 have hal : l[i]? = some l[i]:=by simp [hil]
 exact Own.ty ((All2.iff.1 h.inner).2 i s _ hi hal) hg
structure Tw (w : World) (B N : Nat) (sa ss sr : Value) (vsA vs : List Value) (m : Mon) : Prop where
 al : OM w B sa vsA m.mem.al
 run : Own w B 3 1 sr m.run.length (m.run.flatMap irow)
 stk : OwnK w N ss vs m.stks
 low : B≤N∧N≤w.heap.size
 loA : (∀ g,sa.ownBlock=some g→g < N) ∧ ∀ s ∈ vsA,∀ g,s.ownBlock=some g→g < N
 loR : ∀ g,sr.ownBlock=some g→g < N
def RetTw (w : World) (m : Mon) (en : Ending) (w' : World) : Prop := ∃ N sa ss sr vsA vs,en = .returned (.agg #[sa,.int .i64 m.mem.next,ss,sr,.int .i64 m.tag,.int .i64 m.call])∧Tw w' w.heap.size N sa ss sr vsA vs m∧Ext w w'
section
variable {w w' : World} {B N : Nat} {sa ss sr : Value} {vsA vs : List Value} {m : Mon}
theorem Tw.but {S : Nat→Prop} (h : Tw w B N sa ss sr vsA vs m) (hE : ExtBut S w w') (hS : ∀ b,B≤b → ¬ S b) : Tw w' B N sa ss sr vsA vs m :=
 ⟨OM.but h.al hE (fun g e=>hS g (h.al.outer.lt e).1) (fun s hs g e=>hS g (OM.inner_lt h.al s hs g e).1),ExtBut.own h.run hE (fun g e=>hS g (h.run.lt e).1),h.stk.but hE (fun b hb=>hS b (Nat.le_trans h.low.1 hb)),⟨h.low.1,Nat.le_trans h.low.2 hE.size⟩,h.loA,h.loR⟩
theorem Tw.ext (h : Tw w B N sa ss sr vsA vs m) (hE : Ext w w') : Tw w' B N sa ss sr vsA vs m:=h.but (ExtBut.of_ext (S:=fun _=>False) hE) (fun _ _ h=>h)
theorem Tw.mono {B' : Nat} (h : Tw w B N sa ss sr vsA vs m) (hB : B'≤B) : Tw w B' N sa ss sr vsA vs m:=⟨OM.mono h.al hB,h.run.mono hB,h.stk,⟨Nat.le_trans hB h.low.1,h.low.2⟩,h.loA,h.loR⟩
theorem Tw.alF (h : Tw w B N sa ss sr vsA vs m) : Fq (fun b=>B≤b∧b < N∧sr.ownBlock≠some b) w (fun w=>Als w sa m.mem.al) :=
 (OM.fsx h.al).mono fun b hb _=>by
  rcases hb with hb | ⟨s,hs,hb⟩
  ·exact ⟨(h.al.outer.lt hb).1,h.loA.1 b hb,fun e=>Own.apart h.al.outer h.run (by decide) hb e⟩
  ·refine ⟨(OM.inner_lt h.al s hs b hb).1,h.loA.2 s hs b hb,fun e => ?_⟩
   have:=(OM.ty h.al hs hb).symm.trans (h.run.ty e)
   simp at this
theorem Tw.runF (h : Tw w B N sa ss sr vsA vs m) : Fq (fun b=>sr.ownBlock=some b) w (fun w=>Nts w sr m.run):=h.run.fs
theorem Tw.read (h : Tw w B N sa ss sr vsA vs m) : RdMon w (.agg #[sa,.int .i64 m.mem.next,ss,sr,.int .i64 m.tag,.int .i64 m.call]) m:=⟨_,_,_,rfl,OM.read h.al,h.stk.read,h.run.sl⟩
end
theorem RetTw.mon {w w' : World} {m : Mon} {en : Ending} (h : RetTw w m en w') : RetF w (fun v=>v) m en w':=by
 obtain ⟨N,sa,ss,sr,vsA,vs,rfl,hT,hE⟩:=h
 exact ⟨_,rfl,FrMon.of_fs (hT.alF.mono fun b h1 _=>h1.1) (hT.stk.fs.mono fun b h1 _=>Nat.le_trans hT.low.1 h1) (hT.runF.mono fun b h1 _=>(hT.run.lt h1).1),hE⟩
end Go.Proofs.Ytnplphcnagooeaa
