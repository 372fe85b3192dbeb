/- Several texts in one: MonL. -/
import Derived.Test.YtoanoodfacmieaaDoorQ11
import Derived.Test.YtoanoodfacmieaaDoorQ12
/- Contracts: monitor.Enter, monitor.Leave. (printed by gen/mon35e.py) -/
namespace Go.Proofs.YtoanoodfacmieaaDoor
set_option maxRecDepth 100000
open Go.RowKit
def RetF (w : World) (f : Value→Value) (m : Mon) (en : Ending) (w' : World) : Prop := ∃ v,en = .returned (f v)∧FrMon w w' v m∧Ext w w'
theorem Box.setL {w : World} {B : Nat} {e : TypeId} {l : List Value} (h : Box w B e l.toArray) (j : Nat) (u : Value) : Box (w.setCell ⟨B,j,none⟩ u) B e (l.set j u).toArray:=by
 have:=h.set j u
 simpa using this
theorem Cloned.own {w : World} {B : Nat} {c : Nat→Nat} {sa ss sr : Value} {vs : List Value} {m : Mon} (h : Cloned w B c sa ss sr vs m) : OwnK w B ss vs m.stks :=
 ⟨h.len,h.outer,fun i s x hs hx=>(h.row i s x hs hx).1.mono fun b hb _=>⟨hb.1,fun e=>by have:=h.out0 b e;omega⟩⟩
theorem MonOk.small {m : Mon} (h : MonOk m) : small m.mem.al∧(m.stks.length≤1000000 ∧ ∀ x ∈ m.stks,1≤x.cells.length∧x.cells.length≤1000000 ∧ ∀ s ∈ x.cells,s.length≤1000000)∧m.run.length≤1000000:=by
 have hb:=ok_bounds h.memOk
 refine ⟨small_of_ok h.memOk,⟨by rw [h.len];omega,fun x hx => ?_⟩,by have:=okR_len h.run;omega⟩
 obtain ⟨i,hi⟩:=List.mem_iff_getElem?.1 hx
 have hlt:=(List.getElem?_eq_some_iff.1 hi).1
 obtain ⟨x',a,hx',_,hr⟩:=h.stk (i:=i) (by rw [← h.len];exact hlt)
 rw [hi] at hx'
 cases hx'
 have hk:=(rowM_parts hr).2.2.1
 have h2:=okK_bounds hk
 unfold okK at hk
 simp only [Bool.and_eq_true,decide_eq_true_eq] at hk
 exact ⟨by omega,by omega,fun s hs=>by have:=h2.2 s hs;omega⟩
theorem leaveM_bad {m : Mon} (h : okMon m=false) : leaveM m=(Mon.zero,8):=by simp [leaveM,h]
theorem leaveM_none {m : Mon} (h : okMon m=true) (hl : m.run.length=0) : leaveM m=(Mon.zero,6):=by simp [leaveM,h,hl]
theorem leaveM_ok {m : Mon} (h : okMon m=true) (hl : ¬ m.run.length=0) : leaveM m=(⟨m.mem,m.stks,m.run.take (m.run.length - 1),m.tag,m.call⟩,0):=by rw [leaveM,if_pos h,if_neg hl]
theorem enterM_bad {m : Mon} (h : okMon m=false) : enterM m=(Mon.zero,0,8):=by simp [enterM,h]
theorem enterM_full {m : Mon} (h : okMon m=true) (hl : m.run.length=32∨m.call=1000000) : enterM m=(Mon.zero,0,18):=by simp [enterM,h,hl]
theorem enterM_ok {m : Mon} (h : okMon m=true) (hl : ¬ m.run.length=32) (hm : ¬ m.call=1000000) : enterM m=(⟨m.mem,m.stks,m.run ++ [m.call],m.tag,m.call+1⟩,m.call,0):=by simp [enterM,h,hl,hm]
theorem mon_Check' {m : Mon} {sa ss sr : Value} {w : World} (hA : Als w sa m.mem.al) (hn : i64B m.mem.next) (hK : Kts w ss m.stks) (hR : Nts w sr m.run) :
  Calls Tryd.prog 18 #[.agg #[sa,.int .i64 m.mem.next,ss,sr,.int .i64 m.tag,.int .i64 m.call]] w fun e w'=>e = .returned (.int .i64 (monErr m))∧Ext w w':=mon_Check hA hn hK hR
set_option maxRecDepth 100000 in
set_option maxHeartbeats 6400000 in
theorem monitor_Enter {m : Mon} {sa ss sr : Value} {w : World} (hA : Als w sa m.mem.al) (hn : i64B m.mem.next) (hK : Kts w ss m.stks) (hR : Nts w sr m.run) :
  Calls Tryd.prog 16 #[.agg #[sa,.int .i64 m.mem.next,ss,sr,.int .i64 m.tag,.int .i64 m.call]] w (RetF w (fun v => .tuple #[v,.int .i64 (enterM m).2.1,.int .i64 (enterM m).2.2]) (enterM m).1):=by
 obtain ⟨aa,ac,rfl,hac,hacm,-⟩:=hA.form
 obtain ⟨ka,kc,rfl,hkc,hkcm,-⟩:=hK.form
 obtain ⟨ra,rc,rfl,hrc,hrcm,-⟩:=hR.form
 unfold maxLen at hacm hkcm hrcm
 have hE0 : Ext w (World.alloc (World.alloc w (.cells #[.slice aa m.mem.al.length ac,.int .i64 m.mem.next,.slice ka m.stks.length kc,.slice ra m.run.length rc,.int .i64 m.tag,.int .i64 m.call] 35)) (.cells #[.slice none 0 0,.int .i64 0,.slice none 0 0,.slice none 0 0,.int .i64 0,.int .i64 0] 35)):=by repeat (first | exact Ext.refl _ | refine Ext.alloc ?_ _)
 have bM : Box (World.alloc (World.alloc w (.cells #[.slice aa m.mem.al.length ac,.int .i64 m.mem.next,.slice ka m.stks.length kc,.slice ra m.run.length rc,.int .i64 m.tag,.int .i64 m.call] 35)) (.cells #[.slice none 0 0,.int .i64 0,.slice none 0 0,.slice none 0 0,.int .i64 0,.int .i64 0] 35)) (w.heap.size) 35 #[.slice aa m.mem.al.length ac,.int .i64 m.mem.next,.slice ka m.stks.length kc,.slice ra m.run.length rc,.int .i64 m.tag,.int .i64 m.call]:=(by
  have h:=Box.new w 35 #[.slice aa m.mem.al.length ac,.int .i64 m.mem.next,.slice ka m.stks.length kc,.slice ra m.run.length rc,.int .i64 m.tag,.int .i64 m.call]
  replace h:=Box.ext h ((Ext.refl _).alloc (.cells #[.slice none 0 0,.int .i64 0,.slice none 0 0,.slice none 0 0,.int .i64 0,.int .i64 0] 35))
  exact h)
 have bR : Box (World.alloc (World.alloc w (.cells #[.slice aa m.mem.al.length ac,.int .i64 m.mem.next,.slice ka m.stks.length kc,.slice ra m.run.length rc,.int .i64 m.tag,.int .i64 m.call] 35)) (.cells #[.slice none 0 0,.int .i64 0,.slice none 0 0,.slice none 0 0,.int .i64 0,.int .i64 0] 35)) (w.heap.size+1) 35 #[.slice none 0 0,.int .i64 0,.slice none 0 0,.slice none 0 0,.int .i64 0,.int .i64 0]:=(by
  have h:=Box.new (World.alloc w (.cells #[.slice aa m.mem.al.length ac,.int .i64 m.mem.next,.slice ka m.stks.length kc,.slice ra m.run.length rc,.int .i64 m.tag,.int .i64 m.call] 35)) 35 #[.slice none 0 0,.int .i64 0,.slice none 0 0,.slice none 0 0,.int .i64 0,.int .i64 0]
  simp only [World.size_alloc] at h
  exact h)
 obtain ⟨w0,hw0⟩ : ∃ z,(World.alloc (World.alloc w (.cells #[.slice aa m.mem.al.length ac,.int .i64 m.mem.next,.slice ka m.stks.length kc,.slice ra m.run.length rc,.int .i64 m.tag,.int .i64 m.call] 35)) (.cells #[.slice none 0 0,.int .i64 0,.slice none 0 0,.slice none 0 0,.int .i64 0,.int .i64 0] 35))=z:=⟨_,rfl⟩
 rw [hw0] at hE0 bM bR
 have hs0 : w0.heap.size=w.heap.size+2:=by rw [← hw0];simp
 replace hs0:=Lib.hid hs0
 replace hA:=Lib.hid hA
 replace hK:=Lib.hid hK
 replace hR:=Lib.hid hR
 replace hn:=Lib.hid hn
 cases hok : okMon m
 ·skip
  have hce:=Lib.hid (monErr_not hok)
  have hres:=Lib.hid (enterM_bad hok)
  clear hok
  go_enter Tryd.func16,Tryd.ntmps16
  obtain ⟨bM_0,bM_1,bM_2,bM_3,bM_4,bM_5,bM_l⟩:=bM.c6
  go_wp2_with fail
  clear bM_0 bM_1 bM_2 bM_3 bM_4 bM_5 bM_l
  refine (mon_Check' (hA.out.ext hE0) hn.out (hK.out.ext hE0) (hR.out.ext hE0)).mono ?_
  rintro e w1 ⟨rfl,hE1⟩
  replace bM:=bM.ext hE1
  replace bR:=bR.ext hE1
  have hF1:=Ext.trans hE0 hE1
  rw [hce.out]
  clear hw0
  obtain ⟨bM_0,bM_1,bM_2,bM_3,bM_4,bM_5,bM_l⟩:=bM.c6
  have bR_0 : World.cell? w1 ⟨w.heap.size+1,0,none⟩=some (.slice none 0 0):=bR.cell 0
  have bR_1 : World.cell? w1 ⟨w.heap.size+1,1,none⟩=some (.int .i64 0):=bR.cell 1
  have bR_2 : World.cell? w1 ⟨w.heap.size+1,2,none⟩=some (.slice none 0 0):=bR.cell 2
  have bR_3 : World.cell? w1 ⟨w.heap.size+1,3,none⟩=some (.slice none 0 0):=bR.cell 3
  have bR_4 : World.cell? w1 ⟨w.heap.size+1,4,none⟩=some (.int .i64 0):=bR.cell 4
  have bR_5 : World.cell? w1 ⟨w.heap.size+1,5,none⟩=some (.int .i64 0):=bR.cell 5
  have bR_f0 : World.frozen? w1 ⟨w.heap.size+1,0,none⟩=false:=bR.frozen 0
  have bR_f1 : World.frozen? w1 ⟨w.heap.size+1,1,none⟩=false:=bR.frozen 1
  have bR_f2 : World.frozen? w1 ⟨w.heap.size+1,2,none⟩=false:=bR.frozen 2
  have bR_f3 : World.frozen? w1 ⟨w.heap.size+1,3,none⟩=false:=bR.frozen 3
  have bR_f4 : World.frozen? w1 ⟨w.heap.size+1,4,none⟩=false:=bR.frozen 4
  have bR_f5 : World.frozen? w1 ⟨w.heap.size+1,5,none⟩=false:=bR.frozen 5
  have bR_l:=bR.lt
  go_wp2
  rw [hres.out]
  have hXe : ExtBut (fun b=>w.heap.size≤b∧b < w.heap.size+2) w1 (World.setCell (World.setCell (World.setCell (World.setCell (World.setCell (World.setCell w1 ⟨w.heap.size+1,0,none⟩ (.slice none 0 0)) ⟨w.heap.size+1,1,none⟩ (.int .i64 0)) ⟨w.heap.size+1,2,none⟩ (.slice none 0 0)) ⟨w.heap.size+1,3,none⟩ (.slice none 0 0)) ⟨w.heap.size+1,4,none⟩ (.int .i64 0)) ⟨w.heap.size+1,5,none⟩ (.int .i64 0)):=by (repeat' with_reducible first | exact ExtBut.refl _ _ | refine ExtBut.dr ?_ | refine ExtBut.sc ?_ ?_ | fail) <;> dsimp only <;> omega
  refine bodyPost_ret (v := .tuple #[.agg #[.slice none 0 0,.int .i64 0,.slice none 0 0,.slice none 0 0,.int .i64 0,.int .i64 0],.int .i64 0,.int .i64 8]) (by simp [results,Tryd.f16,go_sem,bR_0,bR_1,bR_2,bR_3,bR_4,bR_5]) rfl ?_
  have hFe:=ExtBut.ext hF1 hXe (fun b h=>h.1)
  exact ⟨_,rfl,FrMon.zero _ _,hFe⟩
 have hMok:=MonOk.of hok
 have hce:=Lib.hid (monErr_of hok)
 have hcl:=Lib.hid hMok.small
 have hen:=hMok.enter
 by_cases hl : m.run.length=32
 ·skip
  rw [if_pos hl] at hen
  replace hen:=Lib.hid hen
  have hres:=Lib.hid (enterM_full hok (.inl hl))
  clear hok hMok hl
  go_enter Tryd.func16,Tryd.ntmps16
  obtain ⟨bM_0,bM_1,bM_2,bM_3,bM_4,bM_5,bM_l⟩:=bM.c6
  go_wp2_with fail
  clear bM_0 bM_1 bM_2 bM_3 bM_4 bM_5 bM_l
  refine (mon_Check' (hA.out.ext hE0) hn.out (hK.out.ext hE0) (hR.out.ext hE0)).mono ?_
  rintro e w1 ⟨rfl,hE1⟩
  replace bM:=bM.ext hE1
  replace bR:=bR.ext hE1
  have hF1:=Ext.trans hE0 hE1
  rw [hce.out]
  clear hw0
  obtain ⟨bM_0,bM_1,bM_2,bM_3,bM_4,bM_5,bM_l⟩:=bM.c6
  go_wp2_with fail
  clear bM_0 bM_1 bM_2 bM_3 bM_4 bM_5 bM_l
  have hXns:=Lib.hid (by have:=bR.lt;omega : w.heap.size+2≤w1.heap.size)
  refine (guard_EnterF m.call (hR.out.ext hF1)).mono ?_
  rintro e w2 ⟨vn,rfl,hvn,hE2⟩
  replace bM:=bM.ext hE2
  replace bR:=bR.ext hE2
  have hF2:=Ext.trans hF1 hE2
  rw [hen.out] at hvn ⊢
  have hv:=hvn.read.form
  obtain ⟨na,nc,rfl,-⟩:=hv
  dsimp only [List.length]
  have hXn:=Lib.hid (ExtBut.refl (fun b=>w.heap.size≤b∧b < w.heap.size+2) w2)
  obtain ⟨bM_0,bM_1,bM_2,bM_3,bM_4,bM_5,bM_l⟩:=bM.c6
  have bR_0 : World.cell? w2 ⟨w.heap.size+1,0,none⟩=some (.slice none 0 0):=bR.cell 0
  have bR_1 : World.cell? w2 ⟨w.heap.size+1,1,none⟩=some (.int .i64 0):=bR.cell 1
  have bR_2 : World.cell? w2 ⟨w.heap.size+1,2,none⟩=some (.slice none 0 0):=bR.cell 2
  have bR_3 : World.cell? w2 ⟨w.heap.size+1,3,none⟩=some (.slice none 0 0):=bR.cell 3
  have bR_4 : World.cell? w2 ⟨w.heap.size+1,4,none⟩=some (.int .i64 0):=bR.cell 4
  have bR_5 : World.cell? w2 ⟨w.heap.size+1,5,none⟩=some (.int .i64 0):=bR.cell 5
  have bR_f0 : World.frozen? w2 ⟨w.heap.size+1,0,none⟩=false:=bR.frozen 0
  have bR_f1 : World.frozen? w2 ⟨w.heap.size+1,1,none⟩=false:=bR.frozen 1
  have bR_f2 : World.frozen? w2 ⟨w.heap.size+1,2,none⟩=false:=bR.frozen 2
  have bR_f3 : World.frozen? w2 ⟨w.heap.size+1,3,none⟩=false:=bR.frozen 3
  have bR_f4 : World.frozen? w2 ⟨w.heap.size+1,4,none⟩=false:=bR.frozen 4
  have bR_f5 : World.frozen? w2 ⟨w.heap.size+1,5,none⟩=false:=bR.frozen 5
  have bR_l:=bR.lt
  go_wp2
  rw [hres.out]
  have hXe : ExtBut (fun b=>w.heap.size≤b∧b < w.heap.size+2) w2 (World.setCell (World.setCell (World.setCell (World.setCell (World.setCell (World.setCell w2 ⟨w.heap.size+1,0,none⟩ (.slice none 0 0)) ⟨w.heap.size+1,1,none⟩ (.int .i64 0)) ⟨w.heap.size+1,2,none⟩ (.slice none 0 0)) ⟨w.heap.size+1,3,none⟩ (.slice none 0 0)) ⟨w.heap.size+1,4,none⟩ (.int .i64 0)) ⟨w.heap.size+1,5,none⟩ (.int .i64 0)):=by (repeat' with_reducible first | exact ExtBut.refl _ _ | refine ExtBut.dr ?_ | refine ExtBut.sc ?_ ?_ | fail) <;> dsimp only <;> omega
  refine bodyPost_ret (v := .tuple #[.agg #[.slice none 0 0,.int .i64 0,.slice none 0 0,.slice none 0 0,.int .i64 0,.int .i64 0],.int .i64 0,.int .i64 18]) (by simp [results,Tryd.f16,go_sem,bR_0,bR_1,bR_2,bR_3,bR_4,bR_5]) rfl ?_
  have hFe:=ExtBut.ext hF2 hXe (fun b h=>h.1)
  have hXne:=ExtBut.trans hXn.out hXe
  exact ⟨_,rfl,FrMon.zero _ _,hFe⟩
 rw [if_neg hl] at hen
 replace hen:=Lib.hid hen
 by_cases hm : m.call=1000000
 ·skip
  have hres:=Lib.hid (enterM_full hok (.inr hm))
  have q1 : (m.call == 1000000)=true:=by rw [hm];rfl
  clear hok hMok hl hm
  go_enter Tryd.func16,Tryd.ntmps16
  obtain ⟨bM_0,bM_1,bM_2,bM_3,bM_4,bM_5,bM_l⟩:=bM.c6
  go_wp2_with fail
  clear bM_0 bM_1 bM_2 bM_3 bM_4 bM_5 bM_l
  refine (mon_Check' (hA.out.ext hE0) hn.out (hK.out.ext hE0) (hR.out.ext hE0)).mono ?_
  rintro e w1 ⟨rfl,hE1⟩
  replace bM:=bM.ext hE1
  replace bR:=bR.ext hE1
  have hF1:=Ext.trans hE0 hE1
  rw [hce.out]
  clear hw0
  obtain ⟨bM_0,bM_1,bM_2,bM_3,bM_4,bM_5,bM_l⟩:=bM.c6
  go_wp2_with fail
  clear bM_0 bM_1 bM_2 bM_3 bM_4 bM_5 bM_l
  have hXns:=Lib.hid (by have:=bR.lt;omega : w.heap.size+2≤w1.heap.size)
  refine (guard_EnterF m.call (hR.out.ext hF1)).mono ?_
  rintro e w2 ⟨vn,rfl,hvn,hE2⟩
  replace bM:=bM.ext hE2
  replace bR:=bR.ext hE2
  have hF2:=Ext.trans hF1 hE2
  rw [hen.out] at hvn ⊢
  have hv:=hvn.read.form
  obtain ⟨na,nc,rfl,-⟩:=hv
  dsimp only [List.length]
  have hXn:=Lib.hid (ExtBut.refl (fun b=>w.heap.size≤b∧b < w.heap.size+2) w2)
  obtain ⟨bM_0,bM_1,bM_2,bM_3,bM_4,bM_5,bM_l⟩:=bM.c6
  have bR_0 : World.cell? w2 ⟨w.heap.size+1,0,none⟩=some (.slice none 0 0):=bR.cell 0
  have bR_1 : World.cell? w2 ⟨w.heap.size+1,1,none⟩=some (.int .i64 0):=bR.cell 1
  have bR_2 : World.cell? w2 ⟨w.heap.size+1,2,none⟩=some (.slice none 0 0):=bR.cell 2
  have bR_3 : World.cell? w2 ⟨w.heap.size+1,3,none⟩=some (.slice none 0 0):=bR.cell 3
  have bR_4 : World.cell? w2 ⟨w.heap.size+1,4,none⟩=some (.int .i64 0):=bR.cell 4
  have bR_5 : World.cell? w2 ⟨w.heap.size+1,5,none⟩=some (.int .i64 0):=bR.cell 5
  have bR_f0 : World.frozen? w2 ⟨w.heap.size+1,0,none⟩=false:=bR.frozen 0
  have bR_f1 : World.frozen? w2 ⟨w.heap.size+1,1,none⟩=false:=bR.frozen 1
  have bR_f2 : World.frozen? w2 ⟨w.heap.size+1,2,none⟩=false:=bR.frozen 2
  have bR_f3 : World.frozen? w2 ⟨w.heap.size+1,3,none⟩=false:=bR.frozen 3
  have bR_f4 : World.frozen? w2 ⟨w.heap.size+1,4,none⟩=false:=bR.frozen 4
  have bR_f5 : World.frozen? w2 ⟨w.heap.size+1,5,none⟩=false:=bR.frozen 5
  have bR_l:=bR.lt
  go_wp2
  rw [hres.out]
  have hXe : ExtBut (fun b=>w.heap.size≤b∧b < w.heap.size+2) w2 (World.setCell (World.setCell (World.setCell (World.setCell (World.setCell (World.setCell w2 ⟨w.heap.size+1,0,none⟩ (.slice none 0 0)) ⟨w.heap.size+1,1,none⟩ (.int .i64 0)) ⟨w.heap.size+1,2,none⟩ (.slice none 0 0)) ⟨w.heap.size+1,3,none⟩ (.slice none 0 0)) ⟨w.heap.size+1,4,none⟩ (.int .i64 0)) ⟨w.heap.size+1,5,none⟩ (.int .i64 0)):=by (repeat' with_reducible first | exact ExtBut.refl _ _ | refine ExtBut.dr ?_ | refine ExtBut.sc ?_ ?_ | fail) <;> dsimp only <;> omega
  refine bodyPost_ret (v := .tuple #[.agg #[.slice none 0 0,.int .i64 0,.slice none 0 0,.slice none 0 0,.int .i64 0,.int .i64 0],.int .i64 0,.int .i64 18]) (by simp [results,Tryd.f16,go_sem,bR_0,bR_1,bR_2,bR_3,bR_4,bR_5]) rfl ?_
  have hFe:=ExtBut.ext hF2 hXe (fun b h=>h.1)
  have hXne:=ExtBut.trans hXn.out hXe
  exact ⟨_,rfl,FrMon.zero _ _,hFe⟩
 have hres:=Lib.hid (enterM_ok hok hl hm)
 have q1 : (m.call == 1000000)=false:=beq_eq_false_iff_ne.2 hm
 have hcb:=hMok.call
 have w1 : IntKind.i64.wrap (m.call+1)=m.call+1:=IntWalk.i64_in _ (by omega)
 clear hok hMok hl hm hcb
 go_enter Tryd.func16,Tryd.ntmps16
 obtain ⟨bM_0,bM_1,bM_2,bM_3,bM_4,bM_5,bM_l⟩:=bM.c6
 go_wp2_with fail
 clear bM_0 bM_1 bM_2 bM_3 bM_4 bM_5 bM_l
 refine (mon_Check' (hA.out.ext hE0) hn.out (hK.out.ext hE0) (hR.out.ext hE0)).mono ?_
 rintro e w1 ⟨rfl,hE1⟩
 replace bM:=bM.ext hE1
 replace bR:=bR.ext hE1
 have hF1:=Ext.trans hE0 hE1
 rw [hce.out]
 clear hw0
 obtain ⟨bM_0,bM_1,bM_2,bM_3,bM_4,bM_5,bM_l⟩:=bM.c6
 go_wp2_with fail
 clear bM_0 bM_1 bM_2 bM_3 bM_4 bM_5 bM_l
 have hXns:=Lib.hid (by have:=bR.lt;omega : w.heap.size+2≤w1.heap.size)
 refine (guard_EnterF m.call (hR.out.ext hF1)).mono ?_
 rintro e w2 ⟨vn,rfl,hvn,hE2⟩
 replace bM:=bM.ext hE2
 replace bR:=bR.ext hE2
 have hF2:=Ext.trans hF1 hE2
 rw [hen.out] at hvn ⊢
 have hv:=hvn.read.form
 obtain ⟨na,nc,rfl,-⟩:=hv
 simp only [List.length_append,List.length_cons,List.length_nil,Nat.zero_add] at hvn ⊢
 have hN:=Lib.hid hvn
 clear hvn
 skip
 have hXn:=Lib.hid (ExtBut.refl (fun b=>w.heap.size≤b∧b < w.heap.size+2) w2)
 obtain ⟨bM_0,bM_1,bM_2,bM_3,bM_4,bM_5,bM_l⟩:=bM.c6
 go_wp2_with fail
 clear bM_0 bM_1 bM_2 bM_3 bM_4 bM_5 bM_l
 have hXcs:=Lib.hid (by have:=bR.lt;omega : w.heap.size+2≤w2.heap.size)
 have hXn_hXc:=Lib.hid hXn.out.size
 refine (monitor_clone (hA.out.ext hF2) (hK.out.ext hF2) (hR.out.ext hF2) hcl.out.1 hcl.out.2.1 hcl.out.2.2).mono ?_
 rintro e w3 ⟨c,ca,ck,cr,vs,rfl,hC,hE3⟩
 replace bM:=bM.ext hE3
 replace bR:=bR.ext hE3
 replace hXn:=Lib.hid (ExtBut.trans hXn.out (ExtBut.of_ext hE3))
 have hF3:=Ext.trans hF2 hE3
 have hv:=hC.al.read.form
 obtain ⟨ca,cac,rfl,-⟩:=hv
 have hv:=hC.outer.sl.slice_form
 obtain ⟨ck,ckc,rfl,-⟩:=hv
 have hv:=hC.run.read.form
 obtain ⟨cr,crc,rfl,-⟩:=hv
 replace hC:=Lib.hid hC
 have hXc:=Lib.hid (ExtBut.refl (fun b=>w.heap.size≤b∧b < w.heap.size+2) w3)
 have bM_0 : World.cell? w3 ⟨w.heap.size,0,none⟩=some (.slice aa m.mem.al.length ac):=bM.cell 0
 have bM_1 : World.cell? w3 ⟨w.heap.size,1,none⟩=some (.int .i64 m.mem.next):=bM.cell 1
 have bM_2 : World.cell? w3 ⟨w.heap.size,2,none⟩=some (.slice ka m.stks.length kc):=bM.cell 2
 have bM_3 : World.cell? w3 ⟨w.heap.size,3,none⟩=some (.slice ra m.run.length rc):=bM.cell 3
 have bM_4 : World.cell? w3 ⟨w.heap.size,4,none⟩=some (.int .i64 m.tag):=bM.cell 4
 have bM_5 : World.cell? w3 ⟨w.heap.size,5,none⟩=some (.int .i64 m.call):=bM.cell 5
 have bM_f0 : World.frozen? w3 ⟨w.heap.size,0,none⟩=false:=bM.frozen 0
 have bM_f1 : World.frozen? w3 ⟨w.heap.size,1,none⟩=false:=bM.frozen 1
 have bM_f2 : World.frozen? w3 ⟨w.heap.size,2,none⟩=false:=bM.frozen 2
 have bM_f3 : World.frozen? w3 ⟨w.heap.size,3,none⟩=false:=bM.frozen 3
 have bM_f4 : World.frozen? w3 ⟨w.heap.size,4,none⟩=false:=bM.frozen 4
 have bM_f5 : World.frozen? w3 ⟨w.heap.size,5,none⟩=false:=bM.frozen 5
 have bM_l:=bM.lt
 go_upto_region 9 with fail
 clear bM_0 bM_1 bM_2 bM_3 bM_4 bM_5 bM_f0 bM_f1 bM_f2 bM_f3 bM_f4 bM_f5 bM_l
 have hS4 : ExtBut (fun b=>w.heap.size≤b∧b < w.heap.size+2) w3 (World.setCell (World.setCell (World.setCell (World.setCell (World.setCell (World.setCell w3 ⟨w.heap.size,0,none⟩ (.slice ca m.mem.al.length cac)) ⟨w.heap.size,1,none⟩ (.int .i64 m.mem.next)) ⟨w.heap.size,2,none⟩ (.slice ck m.stks.length ckc)) ⟨w.heap.size,3,none⟩ (.slice cr m.run.length crc)) ⟨w.heap.size,4,none⟩ (.int .i64 m.tag)) ⟨w.heap.size,5,none⟩ (.int .i64 m.call)):=by (repeat' with_reducible first | exact ExtBut.refl _ _ | refine ExtBut.dr ?_ | refine ExtBut.sc ?_ ?_ | fail) <;> dsimp only <;> omega
 replace bM:=(Box.setL (Box.setL (Box.setL (Box.setL (Box.setL (Box.setL bM 0 (.slice ca m.mem.al.length cac)) 1 (.int .i64 m.mem.next)) 2 (.slice ck m.stks.length ckc)) 3 (.slice cr m.run.length crc)) 4 (.int .i64 m.tag)) 5 (.int .i64 m.call))
 simp only [List.set_cons_zero,List.set_cons_succ] at bM
 replace bR:=(Box.other (Box.other (Box.other (Box.other (Box.other (Box.other bR (p:=⟨w.heap.size,0,none⟩) (by simp) (.slice ca m.mem.al.length cac)) (p:=⟨w.heap.size,1,none⟩) (by simp) (.int .i64 m.mem.next)) (p:=⟨w.heap.size,2,none⟩) (by simp) (.slice ck m.stks.length ckc)) (p:=⟨w.heap.size,3,none⟩) (by simp) (.slice cr m.run.length crc)) (p:=⟨w.heap.size,4,none⟩) (by simp) (.int .i64 m.tag)) (p:=⟨w.heap.size,5,none⟩) (by simp) (.int .i64 m.call))
 obtain ⟨w4s,hw4⟩ : ∃ z,(World.setCell (World.setCell (World.setCell (World.setCell (World.setCell (World.setCell w3 ⟨w.heap.size,0,none⟩ (.slice ca m.mem.al.length cac)) ⟨w.heap.size,1,none⟩ (.int .i64 m.mem.next)) ⟨w.heap.size,2,none⟩ (.slice ck m.stks.length ckc)) ⟨w.heap.size,3,none⟩ (.slice cr m.run.length crc)) ⟨w.heap.size,4,none⟩ (.int .i64 m.tag)) ⟨w.heap.size,5,none⟩ (.int .i64 m.call))=z:=⟨_,rfl⟩
 rw [hw4] at hS4 bM bR ⊢
 clear hw4
 have hF4:=ExtBut.ext hF3 hS4 (fun b h=>h.1)
 replace hXn:=Lib.hid (ExtBut.trans hXn.out hS4)
 replace hXc:=Lib.hid (ExtBut.trans hXc.out hS4)
 clear hS4
 have bM_0 : World.cell? w4s ⟨w.heap.size,0,none⟩=some (.slice ca m.mem.al.length cac):=bM.cell 0
 have bM_1 : World.cell? w4s ⟨w.heap.size,1,none⟩=some (.int .i64 m.mem.next):=bM.cell 1
 have bM_2 : World.cell? w4s ⟨w.heap.size,2,none⟩=some (.slice ck m.stks.length ckc):=bM.cell 2
 have bM_3 : World.cell? w4s ⟨w.heap.size,3,none⟩=some (.slice cr m.run.length crc):=bM.cell 3
 have bM_4 : World.cell? w4s ⟨w.heap.size,4,none⟩=some (.int .i64 m.tag):=bM.cell 4
 have bM_5 : World.cell? w4s ⟨w.heap.size,5,none⟩=some (.int .i64 m.call):=bM.cell 5
 have bM_f0 : World.frozen? w4s ⟨w.heap.size,0,none⟩=false:=bM.frozen 0
 have bM_f1 : World.frozen? w4s ⟨w.heap.size,1,none⟩=false:=bM.frozen 1
 have bM_f2 : World.frozen? w4s ⟨w.heap.size,2,none⟩=false:=bM.frozen 2
 have bM_f3 : World.frozen? w4s ⟨w.heap.size,3,none⟩=false:=bM.frozen 3
 have bM_f4 : World.frozen? w4s ⟨w.heap.size,4,none⟩=false:=bM.frozen 4
 have bM_f5 : World.frozen? w4s ⟨w.heap.size,5,none⟩=false:=bM.frozen 5
 have bM_l:=bM.lt
 go_upto_region 11 with fail
 clear bM_0 bM_1 bM_2 bM_3 bM_4 bM_5 bM_f0 bM_f1 bM_f2 bM_f3 bM_f4 bM_f5 bM_l
 have hS5 : ExtBut (fun b=>w.heap.size≤b∧b < w.heap.size+2) w4s (World.setCell (World.setCell w4s ⟨w.heap.size,3,none⟩ (.slice na (m.run.length+1) nc)) ⟨w.heap.size,5,none⟩ (.int .i64 (m.call+1))):=by (repeat' with_reducible first | exact ExtBut.refl _ _ | refine ExtBut.dr ?_ | refine ExtBut.sc ?_ ?_ | fail) <;> dsimp only <;> omega
 replace bM:=(Box.setL (Box.setL bM 3 (.slice na (m.run.length+1) nc)) 5 (.int .i64 (m.call+1)))
 simp only [List.set_cons_zero,List.set_cons_succ] at bM
 replace bR:=(Box.other (Box.other bR (p:=⟨w.heap.size,3,none⟩) (by simp) (.slice na (m.run.length+1) nc)) (p:=⟨w.heap.size,5,none⟩) (by simp) (.int .i64 (m.call+1)))
 obtain ⟨w5s,hw5⟩ : ∃ z,(World.setCell (World.setCell w4s ⟨w.heap.size,3,none⟩ (.slice na (m.run.length+1) nc)) ⟨w.heap.size,5,none⟩ (.int .i64 (m.call+1)))=z:=⟨_,rfl⟩
 rw [hw5] at hS5 bM bR ⊢
 clear hw5
 have hF5:=ExtBut.ext hF4 hS5 (fun b h=>h.1)
 replace hXn:=Lib.hid (ExtBut.trans hXn.out hS5)
 replace hXc:=Lib.hid (ExtBut.trans hXc.out hS5)
 clear hS5
 obtain ⟨bM_0,bM_1,bM_2,bM_3,bM_4,bM_5,bM_l⟩:=bM.c6
 have bR_0 : World.cell? w5s ⟨w.heap.size+1,0,none⟩=some (.slice none 0 0):=bR.cell 0
 have bR_1 : World.cell? w5s ⟨w.heap.size+1,1,none⟩=some (.int .i64 0):=bR.cell 1
 have bR_2 : World.cell? w5s ⟨w.heap.size+1,2,none⟩=some (.slice none 0 0):=bR.cell 2
 have bR_3 : World.cell? w5s ⟨w.heap.size+1,3,none⟩=some (.slice none 0 0):=bR.cell 3
 have bR_4 : World.cell? w5s ⟨w.heap.size+1,4,none⟩=some (.int .i64 0):=bR.cell 4
 have bR_5 : World.cell? w5s ⟨w.heap.size+1,5,none⟩=some (.int .i64 0):=bR.cell 5
 have bR_f0 : World.frozen? w5s ⟨w.heap.size+1,0,none⟩=false:=bR.frozen 0
 have bR_f1 : World.frozen? w5s ⟨w.heap.size+1,1,none⟩=false:=bR.frozen 1
 have bR_f2 : World.frozen? w5s ⟨w.heap.size+1,2,none⟩=false:=bR.frozen 2
 have bR_f3 : World.frozen? w5s ⟨w.heap.size+1,3,none⟩=false:=bR.frozen 3
 have bR_f4 : World.frozen? w5s ⟨w.heap.size+1,4,none⟩=false:=bR.frozen 4
 have bR_f5 : World.frozen? w5s ⟨w.heap.size+1,5,none⟩=false:=bR.frozen 5
 have bR_l:=bR.lt
 go_wp2
 rw [hres.out]
 have hXe : ExtBut (fun b=>w.heap.size≤b∧b < w.heap.size+2) w5s (World.setCell (World.setCell (World.setCell (World.setCell (World.setCell (World.setCell w5s ⟨w.heap.size+1,0,none⟩ (.slice ca m.mem.al.length cac)) ⟨w.heap.size+1,1,none⟩ (.int .i64 m.mem.next)) ⟨w.heap.size+1,2,none⟩ (.slice ck m.stks.length ckc)) ⟨w.heap.size+1,3,none⟩ (.slice na (m.run.length+1) nc)) ⟨w.heap.size+1,4,none⟩ (.int .i64 m.tag)) ⟨w.heap.size+1,5,none⟩ (.int .i64 (m.call+1))):=by (repeat' with_reducible first | exact ExtBut.refl _ _ | refine ExtBut.dr ?_ | refine ExtBut.sc ?_ ?_ | fail) <;> dsimp only <;> omega
 refine bodyPost_ret (v := .tuple #[.agg #[.slice ca m.mem.al.length cac,.int .i64 m.mem.next,.slice ck m.stks.length ckc,.slice na (m.run.length+1) nc,.int .i64 m.tag,.int .i64 (m.call+1)],.int .i64 m.call,.int .i64 0]) (by simp [results,Tryd.f16,go_sem,bR_0,bR_1,bR_2,bR_3,bR_4,bR_5]) rfl ?_
 have hFe:=ExtBut.ext hF5 hXe (fun b h=>h.1)
 have hXne:=ExtBut.trans hXn.out hXe
 have hXce:=ExtBut.trans hXc.out hXe
 exact ⟨_,rfl,FrMon.of_fs (m:=⟨m.mem,m.stks,m.run ++ [m.call],m.tag,m.call+1⟩) (hC.out.al.to (S':=fun b=>w.heap.size≤b) hXce (fun b h1 _ h2=>by have:=hXcs.out;omega) (fun b h1 _=>by have:=hXcs.out;omega)) ((OwnK.fs (Cloned.own hC.out)).to (S':=fun b=>w.heap.size≤b) hXce (fun b h1 _ h2=>by have:=hXcs.out;omega) (fun b h1 _=>by have:=hXcs.out;omega)) (hN.out.to (S':=fun b=>w.heap.size≤b) hXne (fun b h1 _ h2=>by have:=hXns.out;omega) (fun b h1 _=>by have:=hXns.out;omega)),hFe⟩
set_option maxRecDepth 100000 in
set_option maxHeartbeats 6400000 in
theorem monitor_Leave {m : Mon} {sa ss sr : Value} {w : World} (hA : Als w sa m.mem.al) (hn : i64B m.mem.next) (hK : Kts w ss m.stks) (hR : Nts w sr m.run) :
  Calls Tryd.prog 37 #[.agg #[sa,.int .i64 m.mem.next,ss,sr,.int .i64 m.tag,.int .i64 m.call]] w (RetF w (fun v => .tuple #[v,.int .i64 (leaveM m).2]) (leaveM m).1):=by
 obtain ⟨aa,ac,rfl,hac,hacm,-⟩:=hA.form
 obtain ⟨ka,kc,rfl,hkc,hkcm,-⟩:=hK.form
 obtain ⟨ra,rc,rfl,hrc,hrcm,-⟩:=hR.form
 unfold maxLen at hacm hkcm hrcm
 have hE0 : Ext w (World.alloc (World.alloc w (.cells #[.slice aa m.mem.al.length ac,.int .i64 m.mem.next,.slice ka m.stks.length kc,.slice ra m.run.length rc,.int .i64 m.tag,.int .i64 m.call] 35)) (.cells #[.slice none 0 0,.int .i64 0,.slice none 0 0,.slice none 0 0,.int .i64 0,.int .i64 0] 35)):=by repeat (first | exact Ext.refl _ | refine Ext.alloc ?_ _)
 have bM : Box (World.alloc (World.alloc w (.cells #[.slice aa m.mem.al.length ac,.int .i64 m.mem.next,.slice ka m.stks.length kc,.slice ra m.run.length rc,.int .i64 m.tag,.int .i64 m.call] 35)) (.cells #[.slice none 0 0,.int .i64 0,.slice none 0 0,.slice none 0 0,.int .i64 0,.int .i64 0] 35)) (w.heap.size) 35 #[.slice aa m.mem.al.length ac,.int .i64 m.mem.next,.slice ka m.stks.length kc,.slice ra m.run.length rc,.int .i64 m.tag,.int .i64 m.call]:=(by
  have h:=Box.new w 35 #[.slice aa m.mem.al.length ac,.int .i64 m.mem.next,.slice ka m.stks.length kc,.slice ra m.run.length rc,.int .i64 m.tag,.int .i64 m.call]
  replace h:=Box.ext h ((Ext.refl _).alloc (.cells #[.slice none 0 0,.int .i64 0,.slice none 0 0,.slice none 0 0,.int .i64 0,.int .i64 0] 35))
  exact h)
 have bR : Box (World.alloc (World.alloc w (.cells #[.slice aa m.mem.al.length ac,.int .i64 m.mem.next,.slice ka m.stks.length kc,.slice ra m.run.length rc,.int .i64 m.tag,.int .i64 m.call] 35)) (.cells #[.slice none 0 0,.int .i64 0,.slice none 0 0,.slice none 0 0,.int .i64 0,.int .i64 0] 35)) (w.heap.size+1) 35 #[.slice none 0 0,.int .i64 0,.slice none 0 0,.slice none 0 0,.int .i64 0,.int .i64 0]:=(by
  have h:=Box.new (World.alloc w (.cells #[.slice aa m.mem.al.length ac,.int .i64 m.mem.next,.slice ka m.stks.length kc,.slice ra m.run.length rc,.int .i64 m.tag,.int .i64 m.call] 35)) 35 #[.slice none 0 0,.int .i64 0,.slice none 0 0,.slice none 0 0,.int .i64 0,.int .i64 0]
  simp only [World.size_alloc] at h
  exact h)
 obtain ⟨w0,hw0⟩ : ∃ z,(World.alloc (World.alloc w (.cells #[.slice aa m.mem.al.length ac,.int .i64 m.mem.next,.slice ka m.stks.length kc,.slice ra m.run.length rc,.int .i64 m.tag,.int .i64 m.call] 35)) (.cells #[.slice none 0 0,.int .i64 0,.slice none 0 0,.slice none 0 0,.int .i64 0,.int .i64 0] 35))=z:=⟨_,rfl⟩
 rw [hw0] at hE0 bM bR
 have hs0 : w0.heap.size=w.heap.size+2:=by rw [← hw0];simp
 replace hs0:=Lib.hid hs0
 replace hA:=Lib.hid hA
 replace hK:=Lib.hid hK
 replace hR:=Lib.hid hR
 replace hn:=Lib.hid hn
 cases hok : okMon m
 ·skip
  have hce:=Lib.hid (monErr_not hok)
  have hres:=Lib.hid (leaveM_bad hok)
  clear hok
  go_enter Tryd.func37,Tryd.ntmps37
  obtain ⟨bM_0,bM_1,bM_2,bM_3,bM_4,bM_5,bM_l⟩:=bM.c6
  go_wp2_with fail
  clear bM_0 bM_1 bM_2 bM_3 bM_4 bM_5 bM_l
  refine (mon_Check' (hA.out.ext hE0) hn.out (hK.out.ext hE0) (hR.out.ext hE0)).mono ?_
  rintro e w1 ⟨rfl,hE1⟩
  replace bM:=bM.ext hE1
  replace bR:=bR.ext hE1
  have hF1:=Ext.trans hE0 hE1
  rw [hce.out]
  clear hw0
  obtain ⟨bM_0,bM_1,bM_2,bM_3,bM_4,bM_5,bM_l⟩:=bM.c6
  have bR_0 : World.cell? w1 ⟨w.heap.size+1,0,none⟩=some (.slice none 0 0):=bR.cell 0
  have bR_1 : World.cell? w1 ⟨w.heap.size+1,1,none⟩=some (.int .i64 0):=bR.cell 1
  have bR_2 : World.cell? w1 ⟨w.heap.size+1,2,none⟩=some (.slice none 0 0):=bR.cell 2
  have bR_3 : World.cell? w1 ⟨w.heap.size+1,3,none⟩=some (.slice none 0 0):=bR.cell 3
  have bR_4 : World.cell? w1 ⟨w.heap.size+1,4,none⟩=some (.int .i64 0):=bR.cell 4
  have bR_5 : World.cell? w1 ⟨w.heap.size+1,5,none⟩=some (.int .i64 0):=bR.cell 5
  have bR_f0 : World.frozen? w1 ⟨w.heap.size+1,0,none⟩=false:=bR.frozen 0
  have bR_f1 : World.frozen? w1 ⟨w.heap.size+1,1,none⟩=false:=bR.frozen 1
  have bR_f2 : World.frozen? w1 ⟨w.heap.size+1,2,none⟩=false:=bR.frozen 2
  have bR_f3 : World.frozen? w1 ⟨w.heap.size+1,3,none⟩=false:=bR.frozen 3
  have bR_f4 : World.frozen? w1 ⟨w.heap.size+1,4,none⟩=false:=bR.frozen 4
  have bR_f5 : World.frozen? w1 ⟨w.heap.size+1,5,none⟩=false:=bR.frozen 5
  have bR_l:=bR.lt
  go_wp2
  rw [hres.out]
  have hXe : ExtBut (fun b=>w.heap.size≤b∧b < w.heap.size+2) w1 (World.setCell (World.setCell (World.setCell (World.setCell (World.setCell (World.setCell w1 ⟨w.heap.size+1,0,none⟩ (.slice none 0 0)) ⟨w.heap.size+1,1,none⟩ (.int .i64 0)) ⟨w.heap.size+1,2,none⟩ (.slice none 0 0)) ⟨w.heap.size+1,3,none⟩ (.slice none 0 0)) ⟨w.heap.size+1,4,none⟩ (.int .i64 0)) ⟨w.heap.size+1,5,none⟩ (.int .i64 0)):=by (repeat' with_reducible first | exact ExtBut.refl _ _ | refine ExtBut.dr ?_ | refine ExtBut.sc ?_ ?_ | fail) <;> dsimp only <;> omega
  refine bodyPost_ret (v := .tuple #[.agg #[.slice none 0 0,.int .i64 0,.slice none 0 0,.slice none 0 0,.int .i64 0,.int .i64 0],.int .i64 8]) (by simp [results,Tryd.f37,go_sem,bR_0,bR_1,bR_2,bR_3,bR_4,bR_5]) rfl ?_
  have hFe:=ExtBut.ext hF1 hXe (fun b h=>h.1)
  exact ⟨_,rfl,FrMon.zero _ _,hFe⟩
 have hMok:=MonOk.of hok
 have hce:=Lib.hid (monErr_of hok)
 have hcl:=Lib.hid hMok.small
 have hen:=hMok.leave
 by_cases hl : m.run.length=0
 ·skip
  rw [if_pos hl] at hen
  replace hen:=Lib.hid hen
  have hres:=Lib.hid (leaveM_none hok hl)
  clear hok hMok hl
  go_enter Tryd.func37,Tryd.ntmps37
  obtain ⟨bM_0,bM_1,bM_2,bM_3,bM_4,bM_5,bM_l⟩:=bM.c6
  go_wp2_with fail
  clear bM_0 bM_1 bM_2 bM_3 bM_4 bM_5 bM_l
  refine (mon_Check' (hA.out.ext hE0) hn.out (hK.out.ext hE0) (hR.out.ext hE0)).mono ?_
  rintro e w1 ⟨rfl,hE1⟩
  replace bM:=bM.ext hE1
  replace bR:=bR.ext hE1
  have hF1:=Ext.trans hE0 hE1
  rw [hce.out]
  clear hw0
  obtain ⟨bM_0,bM_1,bM_2,bM_3,bM_4,bM_5,bM_l⟩:=bM.c6
  go_wp2_with fail
  clear bM_0 bM_1 bM_2 bM_3 bM_4 bM_5 bM_l
  have hXns:=Lib.hid (by have:=bR.lt;omega : w.heap.size+2≤w1.heap.size)
  refine (guard_LeaveF (hR.out.ext hF1)).mono ?_
  rintro e w2 ⟨vn,rfl,hvn,hE2⟩
  replace bM:=bM.ext hE2
  replace bR:=bR.ext hE2
  have hF2:=Ext.trans hF1 hE2
  rw [hen.out] at hvn ⊢
  have hv:=hvn.read.form
  obtain ⟨na,nc,rfl,-⟩:=hv
  dsimp only [List.length] at hvn ⊢
  have hN:=Lib.hid hvn
  clear hvn
  have hXn:=Lib.hid (ExtBut.refl (fun b=>w.heap.size≤b∧b < w.heap.size+2) w2)
  obtain ⟨bM_0,bM_1,bM_2,bM_3,bM_4,bM_5,bM_l⟩:=bM.c6
  have bR_0 : World.cell? w2 ⟨w.heap.size+1,0,none⟩=some (.slice none 0 0):=bR.cell 0
  have bR_1 : World.cell? w2 ⟨w.heap.size+1,1,none⟩=some (.int .i64 0):=bR.cell 1
  have bR_2 : World.cell? w2 ⟨w.heap.size+1,2,none⟩=some (.slice none 0 0):=bR.cell 2
  have bR_3 : World.cell? w2 ⟨w.heap.size+1,3,none⟩=some (.slice none 0 0):=bR.cell 3
  have bR_4 : World.cell? w2 ⟨w.heap.size+1,4,none⟩=some (.int .i64 0):=bR.cell 4
  have bR_5 : World.cell? w2 ⟨w.heap.size+1,5,none⟩=some (.int .i64 0):=bR.cell 5
  have bR_f0 : World.frozen? w2 ⟨w.heap.size+1,0,none⟩=false:=bR.frozen 0
  have bR_f1 : World.frozen? w2 ⟨w.heap.size+1,1,none⟩=false:=bR.frozen 1
  have bR_f2 : World.frozen? w2 ⟨w.heap.size+1,2,none⟩=false:=bR.frozen 2
  have bR_f3 : World.frozen? w2 ⟨w.heap.size+1,3,none⟩=false:=bR.frozen 3
  have bR_f4 : World.frozen? w2 ⟨w.heap.size+1,4,none⟩=false:=bR.frozen 4
  have bR_f5 : World.frozen? w2 ⟨w.heap.size+1,5,none⟩=false:=bR.frozen 5
  have bR_l:=bR.lt
  go_wp2
  rw [hres.out]
  have hXe : ExtBut (fun b=>w.heap.size≤b∧b < w.heap.size+2) w2 (World.setCell (World.setCell (World.setCell (World.setCell (World.setCell (World.setCell w2 ⟨w.heap.size+1,0,none⟩ (.slice none 0 0)) ⟨w.heap.size+1,1,none⟩ (.int .i64 0)) ⟨w.heap.size+1,2,none⟩ (.slice none 0 0)) ⟨w.heap.size+1,3,none⟩ (.slice none 0 0)) ⟨w.heap.size+1,4,none⟩ (.int .i64 0)) ⟨w.heap.size+1,5,none⟩ (.int .i64 0)):=by (repeat' with_reducible first | exact ExtBut.refl _ _ | refine ExtBut.dr ?_ | refine ExtBut.sc ?_ ?_ | fail) <;> dsimp only <;> omega
  refine bodyPost_ret (v := .tuple #[.agg #[.slice none 0 0,.int .i64 0,.slice none 0 0,.slice none 0 0,.int .i64 0,.int .i64 0],.int .i64 6]) (by simp [results,Tryd.f37,go_sem,bR_0,bR_1,bR_2,bR_3,bR_4,bR_5]) rfl ?_
  have hFe:=ExtBut.ext hF2 hXe (fun b h=>h.1)
  have hXne:=ExtBut.trans hXn.out hXe
  exact ⟨_,rfl,FrMon.zero _ _,hFe⟩
 rw [if_neg hl] at hen
 have hres:=leaveM_ok hok hl
 obtain ⟨RT,hRT⟩ : ∃ z,m.run.take (m.run.length - 1)=z:=⟨_,rfl⟩
 rw [hRT] at hen hres
 replace hen:=Lib.hid hen;replace hres:=Lib.hid hres
 clear hok hMok hl hRT
 go_enter Tryd.func37,Tryd.ntmps37
 obtain ⟨bM_0,bM_1,bM_2,bM_3,bM_4,bM_5,bM_l⟩:=bM.c6
 go_wp2_with fail
 clear bM_0 bM_1 bM_2 bM_3 bM_4 bM_5 bM_l
 refine (mon_Check' (hA.out.ext hE0) hn.out (hK.out.ext hE0) (hR.out.ext hE0)).mono ?_
 rintro e w1 ⟨rfl,hE1⟩
 replace bM:=bM.ext hE1
 replace bR:=bR.ext hE1
 have hF1:=Ext.trans hE0 hE1
 rw [hce.out]
 clear hw0
 obtain ⟨bM_0,bM_1,bM_2,bM_3,bM_4,bM_5,bM_l⟩:=bM.c6
 go_wp2_with fail
 clear bM_0 bM_1 bM_2 bM_3 bM_4 bM_5 bM_l
 have hXns:=Lib.hid (by have:=bR.lt;omega : w.heap.size+2≤w1.heap.size)
 refine (guard_LeaveF (hR.out.ext hF1)).mono ?_
 rintro e w2 ⟨vn,rfl,hvn,hE2⟩
 replace bM:=bM.ext hE2
 replace bR:=bR.ext hE2
 have hF2:=Ext.trans hF1 hE2
 rw [hen.out] at hvn ⊢
 have hv:=hvn.read.form
 obtain ⟨na,nc,rfl,-⟩:=hv
 skip
 have hN:=Lib.hid hvn
 clear hvn
 have hXn:=Lib.hid (ExtBut.refl (fun b=>w.heap.size≤b∧b < w.heap.size+2) w2)
 obtain ⟨bM_0,bM_1,bM_2,bM_3,bM_4,bM_5,bM_l⟩:=bM.c6
 go_wp2_with fail
 clear bM_0 bM_1 bM_2 bM_3 bM_4 bM_5 bM_l
 have hXcs:=Lib.hid (by have:=bR.lt;omega : w.heap.size+2≤w2.heap.size)
 have hXn_hXc:=Lib.hid hXn.out.size
 refine (monitor_clone (hA.out.ext hF2) (hK.out.ext hF2) (hR.out.ext hF2) hcl.out.1 hcl.out.2.1 hcl.out.2.2).mono ?_
 rintro e w3 ⟨c,ca,ck,cr,vs,rfl,hC,hE3⟩
 replace bM:=bM.ext hE3
 replace bR:=bR.ext hE3
 replace hXn:=Lib.hid (ExtBut.trans hXn.out (ExtBut.of_ext hE3))
 have hF3:=Ext.trans hF2 hE3
 have hv:=hC.al.read.form
 obtain ⟨ca,cac,rfl,-⟩:=hv
 have hv:=hC.outer.sl.slice_form
 obtain ⟨ck,ckc,rfl,-⟩:=hv
 have hv:=hC.run.read.form
 obtain ⟨cr,crc,rfl,-⟩:=hv
 replace hC:=Lib.hid hC
 have hXc:=Lib.hid (ExtBut.refl (fun b=>w.heap.size≤b∧b < w.heap.size+2) w3)
 have bM_0 : World.cell? w3 ⟨w.heap.size,0,none⟩=some (.slice aa m.mem.al.length ac):=bM.cell 0
 have bM_1 : World.cell? w3 ⟨w.heap.size,1,none⟩=some (.int .i64 m.mem.next):=bM.cell 1
 have bM_2 : World.cell? w3 ⟨w.heap.size,2,none⟩=some (.slice ka m.stks.length kc):=bM.cell 2
 have bM_3 : World.cell? w3 ⟨w.heap.size,3,none⟩=some (.slice ra m.run.length rc):=bM.cell 3
 have bM_4 : World.cell? w3 ⟨w.heap.size,4,none⟩=some (.int .i64 m.tag):=bM.cell 4
 have bM_5 : World.cell? w3 ⟨w.heap.size,5,none⟩=some (.int .i64 m.call):=bM.cell 5
 have bM_f0 : World.frozen? w3 ⟨w.heap.size,0,none⟩=false:=bM.frozen 0
 have bM_f1 : World.frozen? w3 ⟨w.heap.size,1,none⟩=false:=bM.frozen 1
 have bM_f2 : World.frozen? w3 ⟨w.heap.size,2,none⟩=false:=bM.frozen 2
 have bM_f3 : World.frozen? w3 ⟨w.heap.size,3,none⟩=false:=bM.frozen 3
 have bM_f4 : World.frozen? w3 ⟨w.heap.size,4,none⟩=false:=bM.frozen 4
 have bM_f5 : World.frozen? w3 ⟨w.heap.size,5,none⟩=false:=bM.frozen 5
 have bM_l:=bM.lt
 go_upto_region 8 with fail
 clear bM_0 bM_1 bM_2 bM_3 bM_4 bM_5 bM_f0 bM_f1 bM_f2 bM_f3 bM_f4 bM_f5 bM_l
 have hS4 : ExtBut (fun b=>w.heap.size≤b∧b < w.heap.size+2) w3 (World.setCell (World.setCell (World.setCell (World.setCell (World.setCell (World.setCell w3 ⟨w.heap.size,0,none⟩ (.slice ca m.mem.al.length cac)) ⟨w.heap.size,1,none⟩ (.int .i64 m.mem.next)) ⟨w.heap.size,2,none⟩ (.slice ck m.stks.length ckc)) ⟨w.heap.size,3,none⟩ (.slice cr m.run.length crc)) ⟨w.heap.size,4,none⟩ (.int .i64 m.tag)) ⟨w.heap.size,5,none⟩ (.int .i64 m.call)):=by (repeat' with_reducible first | exact ExtBut.refl _ _ | refine ExtBut.dr ?_ | refine ExtBut.sc ?_ ?_ | fail) <;> dsimp only <;> omega
 replace bM:=(Box.setL (Box.setL (Box.setL (Box.setL (Box.setL (Box.setL bM 0 (.slice ca m.mem.al.length cac)) 1 (.int .i64 m.mem.next)) 2 (.slice ck m.stks.length ckc)) 3 (.slice cr m.run.length crc)) 4 (.int .i64 m.tag)) 5 (.int .i64 m.call))
 simp only [List.set_cons_zero,List.set_cons_succ] at bM
 replace bR:=(Box.other (Box.other (Box.other (Box.other (Box.other (Box.other bR (p:=⟨w.heap.size,0,none⟩) (by simp) (.slice ca m.mem.al.length cac)) (p:=⟨w.heap.size,1,none⟩) (by simp) (.int .i64 m.mem.next)) (p:=⟨w.heap.size,2,none⟩) (by simp) (.slice ck m.stks.length ckc)) (p:=⟨w.heap.size,3,none⟩) (by simp) (.slice cr m.run.length crc)) (p:=⟨w.heap.size,4,none⟩) (by simp) (.int .i64 m.tag)) (p:=⟨w.heap.size,5,none⟩) (by simp) (.int .i64 m.call))
 obtain ⟨w4s,hw4⟩ : ∃ z,(World.setCell (World.setCell (World.setCell (World.setCell (World.setCell (World.setCell w3 ⟨w.heap.size,0,none⟩ (.slice ca m.mem.al.length cac)) ⟨w.heap.size,1,none⟩ (.int .i64 m.mem.next)) ⟨w.heap.size,2,none⟩ (.slice ck m.stks.length ckc)) ⟨w.heap.size,3,none⟩ (.slice cr m.run.length crc)) ⟨w.heap.size,4,none⟩ (.int .i64 m.tag)) ⟨w.heap.size,5,none⟩ (.int .i64 m.call))=z:=⟨_,rfl⟩
 rw [hw4] at hS4 bM bR ⊢
 clear hw4
 have hF4:=ExtBut.ext hF3 hS4 (fun b h=>h.1)
 replace hXn:=Lib.hid (ExtBut.trans hXn.out hS4)
 replace hXc:=Lib.hid (ExtBut.trans hXc.out hS4)
 clear hS4
 have bM_0 : World.cell? w4s ⟨w.heap.size,0,none⟩=some (.slice ca m.mem.al.length cac):=bM.cell 0
 have bM_1 : World.cell? w4s ⟨w.heap.size,1,none⟩=some (.int .i64 m.mem.next):=bM.cell 1
 have bM_2 : World.cell? w4s ⟨w.heap.size,2,none⟩=some (.slice ck m.stks.length ckc):=bM.cell 2
 have bM_3 : World.cell? w4s ⟨w.heap.size,3,none⟩=some (.slice cr m.run.length crc):=bM.cell 3
 have bM_4 : World.cell? w4s ⟨w.heap.size,4,none⟩=some (.int .i64 m.tag):=bM.cell 4
 have bM_5 : World.cell? w4s ⟨w.heap.size,5,none⟩=some (.int .i64 m.call):=bM.cell 5
 have bM_f0 : World.frozen? w4s ⟨w.heap.size,0,none⟩=false:=bM.frozen 0
 have bM_f1 : World.frozen? w4s ⟨w.heap.size,1,none⟩=false:=bM.frozen 1
 have bM_f2 : World.frozen? w4s ⟨w.heap.size,2,none⟩=false:=bM.frozen 2
 have bM_f3 : World.frozen? w4s ⟨w.heap.size,3,none⟩=false:=bM.frozen 3
 have bM_f4 : World.frozen? w4s ⟨w.heap.size,4,none⟩=false:=bM.frozen 4
 have bM_f5 : World.frozen? w4s ⟨w.heap.size,5,none⟩=false:=bM.frozen 5
 have bM_l:=bM.lt
 go_upto_region 9 with fail
 clear bM_0 bM_1 bM_2 bM_3 bM_4 bM_5 bM_f0 bM_f1 bM_f2 bM_f3 bM_f4 bM_f5 bM_l
 have hS5 : ExtBut (fun b=>w.heap.size≤b∧b < w.heap.size+2) w4s (World.setCell w4s ⟨w.heap.size,3,none⟩ (.slice na RT.length nc)):=((ExtBut.setCell w4s ⟨w.heap.size,3,none⟩ (.slice na RT.length nc)).mono (S':=(fun b=>w.heap.size≤b∧b < w.heap.size+2)) (fun b _ h=>by have h' : b=w.heap.size:=h;omega))
 replace bM:=(Box.setL bM 3 (.slice na RT.length nc))
 simp only [List.set_cons_zero,List.set_cons_succ] at bM
 replace bR:=(Box.other bR (p:=⟨w.heap.size,3,none⟩) (by simp) (.slice na RT.length nc))
 obtain ⟨w5s,hw5⟩ : ∃ z,(World.setCell w4s ⟨w.heap.size,3,none⟩ (.slice na RT.length nc))=z:=⟨_,rfl⟩
 rw [hw5] at hS5 bM bR ⊢
 clear hw5
 have hF5:=ExtBut.ext hF4 hS5 (fun b h=>h.1)
 replace hXn:=Lib.hid (ExtBut.trans hXn.out hS5)
 replace hXc:=Lib.hid (ExtBut.trans hXc.out hS5)
 clear hS5
 obtain ⟨bM_0,bM_1,bM_2,bM_3,bM_4,bM_5,bM_l⟩:=bM.c6
 have bR_0 : World.cell? w5s ⟨w.heap.size+1,0,none⟩=some (.slice none 0 0):=bR.cell 0
 have bR_1 : World.cell? w5s ⟨w.heap.size+1,1,none⟩=some (.int .i64 0):=bR.cell 1
 have bR_2 : World.cell? w5s ⟨w.heap.size+1,2,none⟩=some (.slice none 0 0):=bR.cell 2
 have bR_3 : World.cell? w5s ⟨w.heap.size+1,3,none⟩=some (.slice none 0 0):=bR.cell 3
 have bR_4 : World.cell? w5s ⟨w.heap.size+1,4,none⟩=some (.int .i64 0):=bR.cell 4
 have bR_5 : World.cell? w5s ⟨w.heap.size+1,5,none⟩=some (.int .i64 0):=bR.cell 5
 have bR_f0 : World.frozen? w5s ⟨w.heap.size+1,0,none⟩=false:=bR.frozen 0
 have bR_f1 : World.frozen? w5s ⟨w.heap.size+1,1,none⟩=false:=bR.frozen 1
 have bR_f2 : World.frozen? w5s ⟨w.heap.size+1,2,none⟩=false:=bR.frozen 2
 have bR_f3 : World.frozen? w5s ⟨w.heap.size+1,3,none⟩=false:=bR.frozen 3
 have bR_f4 : World.frozen? w5s ⟨w.heap.size+1,4,none⟩=false:=bR.frozen 4
 have bR_f5 : World.frozen? w5s ⟨w.heap.size+1,5,none⟩=false:=bR.frozen 5
 have bR_l:=bR.lt
 go_wp2
 rw [hres.out]
 have hXe : ExtBut (fun b=>w.heap.size≤b∧b < w.heap.size+2) w5s (World.setCell (World.setCell (World.setCell (World.setCell (World.setCell (World.setCell w5s ⟨w.heap.size+1,0,none⟩ (.slice ca m.mem.al.length cac)) ⟨w.heap.size+1,1,none⟩ (.int .i64 m.mem.next)) ⟨w.heap.size+1,2,none⟩ (.slice ck m.stks.length ckc)) ⟨w.heap.size+1,3,none⟩ (.slice na RT.length nc)) ⟨w.heap.size+1,4,none⟩ (.int .i64 m.tag)) ⟨w.heap.size+1,5,none⟩ (.int .i64 m.call)):=by (repeat' with_reducible first | exact ExtBut.refl _ _ | refine ExtBut.dr ?_ | refine ExtBut.sc ?_ ?_ | fail) <;> dsimp only <;> omega
 refine bodyPost_ret (v := .tuple #[.agg #[.slice ca m.mem.al.length cac,.int .i64 m.mem.next,.slice ck m.stks.length ckc,.slice na RT.length nc,.int .i64 m.tag,.int .i64 m.call],.int .i64 0]) (by simp [results,Tryd.f37,go_sem,bR_0,bR_1,bR_2,bR_3,bR_4,bR_5]) rfl ?_
 have hFe:=ExtBut.ext hF5 hXe (fun b h=>h.1)
 have hXne:=ExtBut.trans hXn.out hXe
 have hXce:=ExtBut.trans hXc.out hXe
 exact ⟨_,rfl,FrMon.of_fs (m:=⟨m.mem,m.stks,RT,m.tag,m.call⟩) (hC.out.al.to (S':=fun b=>w.heap.size≤b) hXce (fun b h1 _ h2=>by have:=hXcs.out;omega) (fun b h1 _=>by have:=hXcs.out;omega)) ((OwnK.fs (Cloned.own hC.out)).to (S':=fun b=>w.heap.size≤b) hXce (fun b h1 _ h2=>by have:=hXcs.out;omega) (fun b h1 _=>by have:=hXcs.out;omega)) (hN.out.to (S':=fun b=>w.heap.size≤b) hXne (fun b h1 _ h2=>by have:=hXns.out;omega) (fun b h1 _=>by have:=hXns.out;omega)),hFe⟩
end Go.Proofs.YtoanoodfacmieaaDoor
