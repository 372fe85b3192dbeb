/- Several texts in one: RfH. -/
import Derived.Test.YtnplphcnagooeaaQ17
import Derived.Test.YtnplphcnagooeaaQ14
import Derived.Deep.RegionLaw
/- Contracts: the reference's Forget of layer 35. (printed by gen/ref35h.py) -/
namespace Go.Proofs.Ytnplphcnagooeaa
set_option maxRecDepth 100000
open Go.RowKit
section
variable (vs : List Value) (l : List Stk) (al : List Alloc)
def zk (k : Nat) : List (Value × Stk):=((((vs.zip l).zip al).take k).filter (fun p=>p.2.live)).map (·.1)
variable {vs l al}
theorem zk_le (k : Nat) : (zk vs l al k).length≤k:=by
 unfold zk
 rw [List.length_map]
 exact Nat.le_trans (List.length_filter_le _ _) (List.length_take_le _ _)
theorem zk_yes {k : Nat} {s : Value} {x : Stk} {a : Alloc} (hs : vs[k]? = some s) (hx : l[k]? = some x) (ha : al[k]? = some a) (h : a.live=true) : zk vs l al (k+1)=zk vs l al k ++ [(s,x)]:=by
 have hz : ((vs.zip l).zip al)[k]? = some ((s,x),a):=by rw [List.getElem?_zip_eq_some,List.getElem?_zip_eq_some];exact ⟨⟨hs,hx⟩,ha⟩
 rw [zk,List.take_add_one,hz,List.filter_append,List.map_append]
 simp [zk,h]
theorem zk_no {k : Nat} {s : Value} {x : Stk} {a : Alloc} (hs : vs[k]? = some s) (hx : l[k]? = some x) (ha : al[k]? = some a) (h : a.live=false) : zk vs l al (k+1)=zk vs l al k:=by
 have hz : ((vs.zip l).zip al)[k]? = some ((s,x),a):=by rw [List.getElem?_zip_eq_some,List.getElem?_zip_eq_some];exact ⟨⟨hs,hx⟩,ha⟩
 rw [zk,List.take_add_one,hz,List.filter_append,List.map_append]
 simp [zk,h]
theorem zk_kept : ∀ (vs : List Value) (l : List Stk) (al : List Alloc),vs.length=l.length→l.length=al.length→((((vs.zip l).zip al).filter (fun p=>p.2.live)).map (·.1)).map Prod.snd=keptK l al
 | [],[],[],_,_=>rfl
 | [],_ :: _,_,h,_=>by simp at h
 | _ :: _,[],_,h,_=>by simp at h
 | [],[],_ :: _,_,h=>by simp at h
 | _ :: _,_ :: _,[],_,h=>by simp at h
 | v :: vs,x :: l,a :: al,h1,h2=>by
  have ih:=zk_kept vs l al (by simpa using h1) (by simpa using h2)
  unfold keptK at ih ⊢
  simp only [List.zip_cons_cons,List.filter_cons]
  cases a.live
  ·exact ih
  ·simpa using ih
theorem zk_snd (h1 : vs.length=l.length) (h2 : l.length=al.length) : (zk vs l al l.length).map Prod.snd=keptK l al:=by
 have h3 : ((vs.zip l).zip al).take l.length=(vs.zip l).zip al:=List.take_of_length_le (by rw [List.length_zip,List.length_zip];omega)
 rw [zk,h3]
 exact zk_kept vs l al h1 h2
theorem zk_len (h1 : vs.length=l.length) (h2 : l.length=al.length) : (zk vs l al l.length).length=(keptK l al).length:=by rw [← zk_snd h1 h2,List.length_map]
end
theorem OwnK.keptF {wT wi : World} {N N2 BO : Nat} {ss v : Value} {vs : List Value} {l : List Stk} {al : List Alloc} (h : OwnK wT N ss vs l) (hlen : l.length=al.length) (hX : ExtBut (fun b=>b < N∨b=BO) wT wi) (hBO : wT.heap.size≤BO)
  (hO : Own wi N2 58 2 v (zk vs l al al.length).length (zqrows (zk vs l al al.length))) (hN2 : BO < N2) (hN : N≤N2) : Fq (fun b=>N≤b∧b≠BO) wi (fun w=>Kts w v (keptK l al)):=by
 intro w'' hw
 have e1:=zk_snd h.len hlen
 rw [← hlen] at hO
 refine ⟨(zk vs l al l.length).map Prod.fst,?_,?_⟩
 ·rw [← e1]
  refine All2.map _ _ _ fun p hp => ?_
  obtain ⟨q,hq,rfl⟩:=List.mem_map.1 hp
  have hq2:=List.mem_of_mem_take (List.mem_filter.1 hq).1
  obtain ⟨i,hi⟩:=List.mem_iff_getElem?.1 hq2
  rw [List.getElem?_zip_eq_some] at hi
  have hi2:=hi.1
  rw [List.getElem?_zip_eq_some] at hi2
  exact ((h.inner i _ _ hi2.1 hi2.2).to (S':=fun b=>N≤b∧b≠BO) hX (fun b h1 hl h2=>by rcases h2 with h2 | h2 <;> omega) (fun b h1 hl=>⟨h1.1,by omega⟩)) w'' hw
 ·have h7:=hO.fs w'' fun b e hl=>hw b ⟨by have:=(hO.lt e).1;omega,by have:=(hO.lt e).1;omega⟩ hl
  rw [← zq_rows,e1] at h7
  rw [← e1,List.length_map,e1]
  exact h7
set_option maxRecDepth 100000 in
set_option maxHeartbeats 12800000 in
theorem ref35_Forget {m : Mon} {sa ss sr : Value} {w : World} (hA : Als w sa m.mem.al) (hn : i64B m.mem.next) (hK : Kts w ss m.stks) (hR : Nts w sr m.run) :
  Calls Try.prog 18 #[.agg #[sa,.int .i64 m.mem.next,ss,sr,.int .i64 m.tag,.int .i64 m.call]] w (RetF w (fun v => .tuple #[v,.int .i64 (forgetM m).2]) (forgetM m).1):=by
 obtain ⟨aa,ac,rfl,hac,hacm,-⟩:=hA.form
 obtain ⟨ka,kc,rfl,hkc,hkcm,-⟩:=hK.form
 obtain ⟨ra,rc,rfl,hrc,hrcm,-⟩:=hR.form
 unfold maxLen at hacm hkcm hrcm
 have hE0 : Ext w (World.alloc (World.alloc w (.cells #[.slice aa m.mem.al.length ac,.int .i64 m.mem.next,.slice ka m.stks.length kc,.slice ra m.run.length rc,.int .i64 m.tag,.int .i64 m.call] 28)) (.cells #[.slice none 0 0,.int .i64 0,.slice none 0 0,.slice none 0 0,.int .i64 0,.int .i64 0] 28)):=by repeat (first | exact Ext.refl _ | refine Ext.alloc ?_ _)
 have bM : Box (World.alloc (World.alloc w (.cells #[.slice aa m.mem.al.length ac,.int .i64 m.mem.next,.slice ka m.stks.length kc,.slice ra m.run.length rc,.int .i64 m.tag,.int .i64 m.call] 28)) (.cells #[.slice none 0 0,.int .i64 0,.slice none 0 0,.slice none 0 0,.int .i64 0,.int .i64 0] 28)) (w.heap.size) 28 #[.slice aa m.mem.al.length ac,.int .i64 m.mem.next,.slice ka m.stks.length kc,.slice ra m.run.length rc,.int .i64 m.tag,.int .i64 m.call]:=(by
  have h:=Box.new w 28 #[.slice aa m.mem.al.length ac,.int .i64 m.mem.next,.slice ka m.stks.length kc,.slice ra m.run.length rc,.int .i64 m.tag,.int .i64 m.call]
  replace h:=Box.ext h ((Ext.refl _).alloc (.cells #[.slice none 0 0,.int .i64 0,.slice none 0 0,.slice none 0 0,.int .i64 0,.int .i64 0] 28))
  exact h)
 have bR : Box (World.alloc (World.alloc w (.cells #[.slice aa m.mem.al.length ac,.int .i64 m.mem.next,.slice ka m.stks.length kc,.slice ra m.run.length rc,.int .i64 m.tag,.int .i64 m.call] 28)) (.cells #[.slice none 0 0,.int .i64 0,.slice none 0 0,.slice none 0 0,.int .i64 0,.int .i64 0] 28)) (w.heap.size+1) 28 #[.slice none 0 0,.int .i64 0,.slice none 0 0,.slice none 0 0,.int .i64 0,.int .i64 0]:=(by
  have h:=Box.new (World.alloc w (.cells #[.slice aa m.mem.al.length ac,.int .i64 m.mem.next,.slice ka m.stks.length kc,.slice ra m.run.length rc,.int .i64 m.tag,.int .i64 m.call] 28)) 28 #[.slice none 0 0,.int .i64 0,.slice none 0 0,.slice none 0 0,.int .i64 0,.int .i64 0]
  simp only [World.size_alloc] at h
  exact h)
 obtain ⟨w0,hw0⟩ : ∃ z,(World.alloc (World.alloc w (.cells #[.slice aa m.mem.al.length ac,.int .i64 m.mem.next,.slice ka m.stks.length kc,.slice ra m.run.length rc,.int .i64 m.tag,.int .i64 m.call] 28)) (.cells #[.slice none 0 0,.int .i64 0,.slice none 0 0,.slice none 0 0,.int .i64 0,.int .i64 0] 28))=z:=⟨_,rfl⟩
 rw [hw0] at hE0 bM bR
 have hs0 : w0.heap.size=w.heap.size+2:=by rw [← hw0];simp
 replace hs0:=Lib.hid hs0
 replace hA:=Lib.hid hA
 replace hK:=Lib.hid hK
 replace hR:=Lib.hid hR
 replace hn:=Lib.hid hn
 cases hok : okMon m
 ·skip
  have hce:=Lib.hid (monErr_not hok)
  have hres:=Lib.hid (forgetM_bad hok)
  clear hok
  go_enter Try.func18,Try.ntmps18
  obtain ⟨bM_0,bM_1,bM_2,bM_3,bM_4,bM_5,bM_l⟩:=bM.c6
  go_wp2_with fail
  clear bM_0 bM_1 bM_2 bM_3 bM_4 bM_5 bM_l
  refine (ref35_Check (hA.out.ext hE0) hn.out (hK.out.ext hE0) (hR.out.ext hE0)).mono ?_
  rintro e w1 ⟨rfl,hE1⟩
  replace bM:=bM.ext hE1
  replace bR:=bR.ext hE1
  have hF1:=Ext.trans hE0 hE1
  rw [hce.out]
  clear hw0
  obtain ⟨bM_0,bM_1,bM_2,bM_3,bM_4,bM_5,bM_l⟩:=bM.c6
  have bR_0 : World.cell? w1 ⟨w.heap.size+1,0,none⟩=some (.slice none 0 0):=bR.cell 0
  have bR_1 : World.cell? w1 ⟨w.heap.size+1,1,none⟩=some (.int .i64 0):=bR.cell 1
  have bR_2 : World.cell? w1 ⟨w.heap.size+1,2,none⟩=some (.slice none 0 0):=bR.cell 2
  have bR_3 : World.cell? w1 ⟨w.heap.size+1,3,none⟩=some (.slice none 0 0):=bR.cell 3
  have bR_4 : World.cell? w1 ⟨w.heap.size+1,4,none⟩=some (.int .i64 0):=bR.cell 4
  have bR_5 : World.cell? w1 ⟨w.heap.size+1,5,none⟩=some (.int .i64 0):=bR.cell 5
  have bR_f0 : World.frozen? w1 ⟨w.heap.size+1,0,none⟩=false:=bR.frozen 0
  have bR_f1 : World.frozen? w1 ⟨w.heap.size+1,1,none⟩=false:=bR.frozen 1
  have bR_f2 : World.frozen? w1 ⟨w.heap.size+1,2,none⟩=false:=bR.frozen 2
  have bR_f3 : World.frozen? w1 ⟨w.heap.size+1,3,none⟩=false:=bR.frozen 3
  have bR_f4 : World.frozen? w1 ⟨w.heap.size+1,4,none⟩=false:=bR.frozen 4
  have bR_f5 : World.frozen? w1 ⟨w.heap.size+1,5,none⟩=false:=bR.frozen 5
  have bR_l:=bR.lt
  go_wp2
  rw [hres.out]
  have hXe : ExtBut (fun b=>w.heap.size≤b∧b < w.heap.size+2) w1 (World.setCell (World.setCell (World.setCell (World.setCell (World.setCell (World.setCell w1 ⟨w.heap.size+1,0,none⟩ (.slice none 0 0)) ⟨w.heap.size+1,1,none⟩ (.int .i64 0)) ⟨w.heap.size+1,2,none⟩ (.slice none 0 0)) ⟨w.heap.size+1,3,none⟩ (.slice none 0 0)) ⟨w.heap.size+1,4,none⟩ (.int .i64 0)) ⟨w.heap.size+1,5,none⟩ (.int .i64 0)):=by (repeat' with_reducible first | exact ExtBut.refl _ _ | refine ExtBut.dr ?_ | refine ExtBut.sc ?_ ?_ | fail) <;> dsimp only <;> omega
  refine bodyPost_ret (v := .tuple #[.agg #[.slice none 0 0,.int .i64 0,.slice none 0 0,.slice none 0 0,.int .i64 0,.int .i64 0],.int .i64 8]) (by simp [results,Try.f18,go_sem,bR_0,bR_1,bR_2,bR_3,bR_4,bR_5]) rfl ?_
  have hFe:=ExtBut.ext hF1 hXe (fun b h=>h.1)
  exact ⟨_,rfl,FrMon.zero _ _,hFe⟩
 have hMok:=MonOk.of hok
 have hce:=Lib.hid (monErr_of hok)
 have hcl:=Lib.hid hMok.small
 have hres:=Lib.hid (forgetM_ok hok)
 have hfo:=Lib.hid (forgetR_ok hMok.memOk)
 have hlen:=Lib.hid hMok.len
 have hl4:=(ok_bounds hMok.memOk).1
 clear hok hMok
 obtain ⟨ii,iz,hi,hz,hi3,hz3,hby⟩:=Stacks.infoE
 replace hi:=Lib.hid hi;replace hz:=Lib.hid hz;replace hi3:=Lib.hid hi3;replace hz3:=Lib.hid hz3;replace hby:=Lib.hid hby
 go_enter Try.func18,Try.ntmps18
 obtain ⟨bM_0,bM_1,bM_2,bM_3,bM_4,bM_5,bM_l⟩:=bM.c6
 go_wp2_with fail
 clear bM_0 bM_1 bM_2 bM_3 bM_4 bM_5 bM_l
 refine (ref35_Check (hA.out.ext hE0) hn.out (hK.out.ext hE0) (hR.out.ext hE0)).mono ?_
 rintro e w1 ⟨rfl,hE1⟩
 replace bM:=bM.ext hE1
 replace bR:=bR.ext hE1
 have hF1:=Ext.trans hE0 hE1
 rw [hce.out]
 clear hw0
 obtain ⟨bM_0,bM_1,bM_2,bM_3,bM_4,bM_5,bM_l⟩:=bM.c6
 go_wp2_with fail
 clear bM_0 bM_1 bM_2 bM_3 bM_4 bM_5 bM_l
 have hXcs:=Lib.hid (by have:=bR.lt;omega : w.heap.size+2≤w1.heap.size)
 refine (ref35_Twin (hA.out.ext hF1) (hK.out.ext hF1) (hR.out.ext hF1) hcl.out.1 hcl.out.2.1 hcl.out.2.2).mono ?_
 rintro e w2 ⟨TN,ca,ck,cr,vsA,vs,rfl,hC,hE2⟩
 replace bM:=bM.ext hE2
 replace bR:=bR.ext hE2
 have hF2:=Ext.trans hF1 hE2
 have hv:=(OM.read hC.al).form
 obtain ⟨ca,cac,rfl,-⟩:=hv
 have hv:=hC.stk.outer.sl.slice_form
 obtain ⟨ck,ckc,rfl,-⟩:=hv
 have hv:=hC.run.sl.slice_form
 obtain ⟨cr,crc,rfl,-⟩:=hv
 replace hC:=Lib.hid hC
 have hXc:=Lib.hid (ExtBut.refl (fun b=>w.heap.size≤b∧b < w.heap.size+2) w2)
 have hTl:=Lib.hid (hC.out.low.1)
 have hTs:=Lib.hid (hC.out.low.2)
 obtain ⟨bM_0,bM_1,bM_2,bM_3,bM_4,bM_5,bM_l⟩:=bM.c6
 go_upto_region 5 with fail
 clear bM_0 bM_1 bM_2 bM_3 bM_4 bM_5 bM_l
 have szbO:=Lib.hid (by have:=bR.lt;omega : w.heap.size+2≤w2.heap.size)
 have bO:=Box.new w2 28 #[.slice ca m.mem.al.length cac,.int .i64 m.mem.next,.slice ck m.stks.length ckc,.slice cr m.run.length crc,.int .i64 m.tag,.int .i64 m.call]
 have hzb0 : (World.alloc w2 (.cells #[.slice ca m.mem.al.length cac,.int .i64 m.mem.next,.slice ck m.stks.length ckc,.slice cr m.run.length crc,.int .i64 m.tag,.int .i64 m.call] 28)).heap.size=w2.heap.size+1:=by rw [World.size_alloc]
 have hx3 : Ext w2 (World.alloc w2 (.cells #[.slice ca m.mem.al.length cac,.int .i64 m.mem.next,.slice ck m.stks.length ckc,.slice cr m.run.length crc,.int .i64 m.tag,.int .i64 m.call] 28)):=(Ext.refl _).alloc _
 obtain ⟨w3b,hw3⟩ : ∃ z,World.alloc w2 (.cells #[.slice ca m.mem.al.length cac,.int .i64 m.mem.next,.slice ck m.stks.length ckc,.slice cr m.run.length crc,.int .i64 m.tag,.int .i64 m.call] 28)=z:=⟨_,rfl⟩
 rw [hw3] at bO hx3 hzb0 ⊢
 clear hw3
 replace bM:=bM.ext hx3
 replace bR:=bR.ext hx3
 replace hXc:=Lib.hid (ExtBut.trans hXc.out (ExtBut.of_ext hx3))
 have hF4:=Ext.trans hF2 hx3
 clear hzb0
 replace hXc:=Lib.hid (ExtBut.mono hXc.out (S':=(fun b=>(w.heap.size≤b∧b < w.heap.size+2)∨b=w2.heap.size)) (fun b _ h => .inl h))
 obtain ⟨bM_0,bM_1,bM_2,bM_3,bM_4,bM_5,bM_l⟩:=bM.c6
 have bO_0 : World.cell? w3b ⟨w2.heap.size,0,none⟩=some (.slice ca m.mem.al.length cac):=bO.cell 0
 have bO_1 : World.cell? w3b ⟨w2.heap.size,1,none⟩=some (.int .i64 m.mem.next):=bO.cell 1
 have bO_2 : World.cell? w3b ⟨w2.heap.size,2,none⟩=some (.slice ck m.stks.length ckc):=bO.cell 2
 have bO_3 : World.cell? w3b ⟨w2.heap.size,3,none⟩=some (.slice cr m.run.length crc):=bO.cell 3
 have bO_4 : World.cell? w3b ⟨w2.heap.size,4,none⟩=some (.int .i64 m.tag):=bO.cell 4
 have bO_5 : World.cell? w3b ⟨w2.heap.size,5,none⟩=some (.int .i64 m.call):=bO.cell 5
 have bO_f0 : World.frozen? w3b ⟨w2.heap.size,0,none⟩=false:=bO.frozen 0
 have bO_f1 : World.frozen? w3b ⟨w2.heap.size,1,none⟩=false:=bO.frozen 1
 have bO_f2 : World.frozen? w3b ⟨w2.heap.size,2,none⟩=false:=bO.frozen 2
 have bO_f3 : World.frozen? w3b ⟨w2.heap.size,3,none⟩=false:=bO.frozen 3
 have bO_f4 : World.frozen? w3b ⟨w2.heap.size,4,none⟩=false:=bO.frozen 4
 have bO_f5 : World.frozen? w3b ⟨w2.heap.size,5,none⟩=false:=bO.frozen 5
 have bO_l:=bO.lt
 go_upto_region 7 with fail
 clear bM_0 bM_1 bM_2 bM_3 bM_4 bM_5 bM_l bO_0 bO_1 bO_2 bO_3 bO_4 bO_5 bO_f0 bO_f1 bO_f2 bO_f3 bO_f4 bO_f5 bO_l
 have hS5 : ExtBut (fun b=>(w.heap.size≤b∧b < w.heap.size+2)∨b=w2.heap.size) w3b (World.setCell w3b ⟨w2.heap.size,2,none⟩ (.slice none 0 0)):=((ExtBut.setCell w3b ⟨w2.heap.size,2,none⟩ (.slice none 0 0)).mono (S':=(fun b=>(w.heap.size≤b∧b < w.heap.size+2)∨b=w2.heap.size)) (fun b _ h=>by have h' : b=w2.heap.size:=h;omega))
 replace bM:=(Box.other bM (p:=⟨w2.heap.size,2,none⟩) (by have:=szbO.out;show w2.heap.size≠w.heap.size;omega) (.slice none 0 0))
 replace bR:=(Box.other bR (p:=⟨w2.heap.size,2,none⟩) (by have:=szbO.out;show w2.heap.size≠w.heap.size+1;omega) (.slice none 0 0))
 replace bO:=(Box.setL bO 2 (.slice none 0 0))
 simp only [List.set_cons_zero,List.set_cons_succ] at bO
 obtain ⟨w5s,hw5⟩ : ∃ z,(World.setCell w3b ⟨w2.heap.size,2,none⟩ (.slice none 0 0))=z:=⟨_,rfl⟩
 rw [hw5] at hS5 bM bR bO ⊢
 clear hw5
 have hF5:=ExtBut.ext hF4 hS5 (fun b h=>by have h0:=szbO.out;rcases h with h | h <;> omega)
 replace hXc:=Lib.hid (ExtBut.trans hXc.out hS5)
 clear hS5
 obtain ⟨bM_0,bM_1,bM_2,bM_3,bM_4,bM_5,bM_l⟩:=bM.c6
 obtain ⟨bO_0,bO_1,bO_2,bO_3,bO_4,bO_5,bO_l⟩:=bO.c6
 go_wp2
 clear bM_0 bM_1 bM_2 bM_3 bM_4 bM_5 bM_l bO_0 bO_1 bO_2 bO_3 bO_4 bO_5 bO_l
 have hBl:=bO.lt
 have hTl1:=hTl.out;have hTs1:=hTs.out;have hXc1:=hXcs.out;have hXc2:=hXc.out.size
 replace hBl:=Lib.hid hBl
 go_loopw [7] (fun iv wr => ∃ (i : Nat) (v : Value),i≤m.stks.length∧iv = .int .i64 i∧Box wr w2.heap.size 28 #[.slice ca m.mem.al.length cac,.int .i64 m.mem.next,v,.slice cr m.run.length crc,.int .i64 m.tag,.int .i64 m.call]∧Own wr w5s.heap.size 58 2 v (zk vs m.stks m.mem.al i).length (zqrows (zk vs m.stks m.mem.al i))∧ExtBut (· = w2.heap.size) w5s wr) (fun iv _=>m.stks.length - (intOf iv).toNat)
 case atStart=>exact ⟨0,_,Nat.zero_le _,rfl,bO,Own.nil _ _ _ _,ExtBut.refl _ _⟩
 case round =>
  obtain ⟨i,v,hi',rfl,bO',hO,hX⟩:=hrel
  obtain ⟨wi,hwi⟩ : ∃ z,wr=z:=⟨_,rfl⟩
  rw [hwi] at bO' hO hX ⊢
  clear hwi bO
  have bO:=bO'
  clear bO'
  have hBl1:=hBl.out
  replace bM:=bM.but hX (by omega);replace bR:=bR.but hX (by omega)
  have hG:=ExtBut.ext hF5 hX (fun b h=>by have h' : b=w2.heap.size:=h;omega)
  have hl40 : m.stks.length≤400:=by have:=hlen.out;omega
  have hzl:=zk_le (vs:=vs) (l:=m.stks) (al:=m.mem.al) i
  obtain ⟨av,cv,rfl,hcv1,hcv2,-⟩:=hO.sl.slice_form
  unfold maxLen at hcv2
  by_cases hil : i < m.stks.length
  ·skip
   obtain ⟨al,hal⟩ : ∃ a,m.mem.al[i]? = some a:=⟨m.mem.al[i]'(by have:=hlen.out;omega),by simp⟩
   obtain ⟨st,hst⟩ : ∃ x,m.stks[i]? = some x:=⟨m.stks[i],by simp⟩
   obtain ⟨b,off,cs,rfl,hbb,a0,a1,a2,hcl2⟩:=(hA.out.ext hG).cell hal
   obtain ⟨G,sv,e,hG1,hG2,hvs,-,c0,c1,hfr⟩:=OwnK.cell hC.out.stk hst
   obtain rfl : ck=some ⟨G,0,none⟩:=e
   have hvf:=(hC.out.stk.inner i sv st hvs hst).read.form
   obtain ⟨sva,svc,rfl,-⟩:=hvf
   have hXT : ExtBut (fun b=>b < TN∨b=w2.heap.size) w2 wi:=(hXc.out.mono (fun b _ h=>by rcases h with h | h;exact .inl (by omega);exact .inr h)).trans (hX.mono (fun b _ h => .inr h))
   have d0:=hXT.cell c0 (by show ¬ (G < TN∨G=w2.heap.size);omega)
   have d1:=hXT.cell c1 (by show ¬ (G < TN∨G=w2.heap.size);omega)
   have hi0 : (0 : Int)≤(i : Int):=by omega
   have hi1 : (i : Int) < (m.stks.length : Int):=by omega
   have hi2 : (i : Int) < (m.mem.al.length : Int):=by have:=hlen.out;omega
   have hil' : decide (i < m.stks.length)=true:=decide_eq_true hil
   have hGW : G < wi.heap.size:=by have:=hX.size;omega
   obtain ⟨anum,alive,acells⟩:=al
   obtain ⟨snum,scells⟩:=st
   dsimp only at a0 a1 a2 d0 d1
   clear hcl2 hbb c0 c1 hfr hXT
   cases alive
   ·skip
    have hzz:=Lib.hid (zk_no hvs hst hal rfl)
    have hH:=Lib.hid (And.intro bO (And.intro hO hX))
    clear hvs hst hal hO hX
    obtain ⟨bM_0,bM_1,bM_2,bM_3,bM_4,bM_5,bM_l⟩:=bM.c6
    obtain ⟨bO_0,bO_1,bO_2,bO_3,bO_4,bO_5,bO_l⟩:=bO.c6
    go_wp2
    go_roundw
    case rel=>exact ⟨i+1,_,by omega,by go_num,hH.out.1,by rw [hzz.out];exact hH.out.2.1,hH.out.2.2⟩
    case measure=>simp [intOf];omega
   ·skip
    have hzz:=zk_yes hvs hst hal rfl
    obtain ⟨Z,hZ⟩ : ∃ z,zk vs m.stks m.mem.al i=z:=⟨_,rfl⟩
    rw [hZ] at hzz hO bO hzl
    clear hZ
    replace hzz:=Lib.hid hzz
    have hsz:=hX.size
    have hvB : ∀ g,(Value.slice av Z.length cv).ownBlock=some g→w5s.heap.size≤g:=fun g e=>(hO.lt e).1
    have hH:=Lib.hid (And.intro bO (And.intro hO (And.intro hX hvB)))
    have hn4 : Z.length≤400:=by omega
    obtain ⟨bM_0,bM_1,bM_2,bM_3,bM_4,bM_5,bM_l⟩:=bM.c6
    have bO_0 : World.cell? wi ⟨w2.heap.size,0,none⟩=some (.slice ca m.mem.al.length cac):=bO.cell 0
    have bO_1 : World.cell? wi ⟨w2.heap.size,1,none⟩=some (.int .i64 m.mem.next):=bO.cell 1
    have bO_2 : World.cell? wi ⟨w2.heap.size,2,none⟩=some (.slice av Z.length cv):=bO.cell 2
    have bO_3 : World.cell? wi ⟨w2.heap.size,3,none⟩=some (.slice cr m.run.length crc):=bO.cell 3
    have bO_4 : World.cell? wi ⟨w2.heap.size,4,none⟩=some (.int .i64 m.tag):=bO.cell 4
    have bO_5 : World.cell? wi ⟨w2.heap.size,5,none⟩=some (.int .i64 m.call):=bO.cell 5
    have bO_f0 : World.frozen? wi ⟨w2.heap.size,0,none⟩=false:=bO.frozen 0
    have bO_f1 : World.frozen? wi ⟨w2.heap.size,1,none⟩=false:=bO.frozen 1
    have bO_f2 : World.frozen? wi ⟨w2.heap.size,2,none⟩=false:=bO.frozen 2
    have bO_f3 : World.frozen? wi ⟨w2.heap.size,3,none⟩=false:=bO.frozen 3
    have bO_f4 : World.frozen? wi ⟨w2.heap.size,4,none⟩=false:=bO.frozen 4
    have bO_f5 : World.frozen? wi ⟨w2.heap.size,5,none⟩=false:=bO.frozen 5
    have bO_l:=bO.lt
    clear hvs hst hal hO hX hvB
    go_wp2
    go_region_law (rw [if_pos (by rfl)];refine wp_append_any (.tmp 33) (.tmp 38) 25 25 rfl rfl rfl (B:=w5s.heap.size) (e:=58) (n:=Z.length) (m:=1) (xs:=zqrows Z) (ys:=krow (.slice sva scells.length svc) ⟨snum,scells⟩) Try.underlying25 Try.underlying25 hi.out hz.out hi3.out hz3.out (hH.out.2.1.ext ((Ext.refl _).alloc _).drew) ?_ ?_ ?_ ?_ ?_ ?_;(first | exact (Own.lit' (B:=0) (e:=58) (k:=2) wi #[.int .i64 snum,.slice sva scells.length svc] 1 (Nat.zero_le _) (by simp [maxLen]) rfl).sl.ext (Ext.refl _).drew);(simp [krow,Value.oneCell']);(simp [maxLen];omega);(rw [hby.out];omega);(have:=hH.out.2.2.1.size;simp;omega);intro v' w6 hOv hKv hbv _;obtain ⟨av',cv',rfl,-⟩:=hOv.sl.slice_form;have bO6:=(hH.out.1.ext ((Ext.refl _).alloc (.cells #[.int .i64 snum,.slice sva scells.length svc] 58)).drew).but (ExtBut.of_keeps hKv) (fun h=>by have:=hH.out.2.2.2 _ h;omega);have o6 : w6.cell? ⟨w2.heap.size,2,none⟩=some (.slice av Z.length cv):=bO6.cell 2;have of6:=bO6.frozen 2)
    all_goals
     have bO7:=bO6.set 2 (.slice av' (Z.length+1) cv')
     have hX7 : ExtBut (fun b=>b=w2.heap.size) w5s (w6.setCell ⟨w2.heap.size,2,none⟩ (.slice av' (Z.length+1) cv')):=((hH.out.2.2.1.trans (ExtBut.of_ext ((Ext.refl _).alloc (.cells #[.int .i64 snum,.slice sva scells.length svc] 58)).drew)).trans' (ExtBut.of_keeps hKv) (fun y hy h=>by have:=hH.out.2.2.2 _ h;omega)).trans (ExtBut.setCell w6 ⟨w2.heap.size,2,none⟩ (.slice av' (Z.length+1) cv'))
     have hO7:=ExtBut.own hOv (ExtBut.setCell w6 ⟨w2.heap.size,2,none⟩ (.slice av' (Z.length+1) cv')) (fun y e h=>by have:=(hOv.lt e).1;have h' : y=w2.heap.size:=h;omega)
     have hO8 : Own (w6.setCell ⟨w2.heap.size,2,none⟩ (.slice av' (Z.length+1) cv')) w5s.heap.size 58 2 (.slice av' (Z.length+1) cv') (zk vs m.stks m.mem.al (i+1)).length (zqrows (zk vs m.stks m.mem.al (i+1))):=by
      rw [hzz.out,List.length_append,zqrows,List.flatMap_append,← zqrows]
      simpa using hO7
     have hR:=Lib.hid (And.intro bO7 (And.intro hO8 hX7))
     clear bO6 o6 of6 hOv hKv hbv bO7 hX7 hO7 hO8
     go_wp2
     go_roundw
     case rel=>exact ⟨i+1,_,by omega,by go_num,hR.out.1,hR.out.2.1,hR.out.2.2⟩
     case measure=>simp [intOf];omega
  ·have hie : i=m.stks.length:=by omega
   subst hie
   have hil' : decide (m.stks.length < m.stks.length)=false:=decide_eq_false (by omega)
   replace hXc:=Lib.hid (hXc.out.trans (hX.mono (S':=(fun b=>(w.heap.size≤b∧b < w.heap.size+2)∨b=w2.heap.size)) (fun b _ h => .inr h)))
   have hKf:=OwnK.keptF (BO:=w2.heap.size) hC.out.stk hlen.out (hXc.out.mono (fun b _ h=>by rcases h with h | h;exact .inl (by omega);exact .inr h)) (Nat.le_refl _) (by rw [← hlen.out];exact hO) (by omega) (by omega)
   have hRf:=hC.out.runF.to (S':=fun b=>w.heap.size+2≤b∧b≠w2.heap.size) hXc.out (fun b h1 hl h2=>by have h3:=hC.out.loR b h1;have h4:=(hC.out.run.lt h1).1;rcases h2 with h2 | h2 <;> omega) (fun b h1 _=>⟨by have h4:=(hC.out.run.lt h1).1;omega,by have h3:=hC.out.loR b h1;omega⟩)
   have hkl:=Lib.hid (zk_len (vs:=vs) hC.out.stk.len hlen.out)
   replace hKf:=Lib.hid hKf;replace hRf:=Lib.hid hRf
   have hXz:=Lib.hid (ExtBut.refl (fun b=>(w.heap.size≤b∧b < w.heap.size+2)∨b=w2.heap.size) wi)
   clear hXc hX hO hil hzl
   obtain ⟨bM_0,bM_1,bM_2,bM_3,bM_4,bM_5,bM_l⟩:=bM.c6
   obtain ⟨bO_0,bO_1,bO_2,bO_3,bO_4,bO_5,bO_l⟩:=bO.c6
   go_wp2_with fail
   clear bM_0 bM_1 bM_2 bM_3 bM_4 bM_5 bM_l bO_0 bO_1 bO_2 bO_3 bO_4 bO_5 bO_l
   have hBO0:=Lib.hid bO.lt
   have hXms:=Lib.hid (by have:=bR.lt;omega : w.heap.size+2≤wi.heap.size)
   have hXz_hXm:=Lib.hid hXz.out.size
   refine (ref26_Forget (hA.out.ext hG) hn.out).mono ?_
   rintro e w6 ⟨v2,rfl,fM,hE6⟩
   replace bM:=bM.ext hE6
   replace bR:=bR.ext hE6
   replace bO:=bO.ext hE6
   replace hXz:=Lib.hid (ExtBut.trans hXz.out (ExtBut.of_ext hE6))
   have hF6:=Ext.trans hG hE6
   rw [hfo.out] at fM ⊢
   obtain ⟨sx,rfl,hx⟩:=FrM.fs fM
   clear fM
   dsimp only at hx
   have hv:=hx.read.form
   obtain ⟨xa,xc,rfl,-⟩:=hv
   dsimp only at hx ⊢
   replace hx:=Lib.hid hx
   have hXm:=Lib.hid (ExtBut.refl (fun b=>(w.heap.size≤b∧b < w.heap.size+2)∨b=w2.heap.size) w6)
   obtain ⟨bM_0,bM_1,bM_2,bM_3,bM_4,bM_5,bM_l⟩:=bM.c6
   have bO_0 : World.cell? w6 ⟨w2.heap.size,0,none⟩=some (.slice ca m.mem.al.length cac):=bO.cell 0
   have bO_1 : World.cell? w6 ⟨w2.heap.size,1,none⟩=some (.int .i64 m.mem.next):=bO.cell 1
   have bO_2 : World.cell? w6 ⟨w2.heap.size,2,none⟩=some (.slice av (zk vs m.stks m.mem.al m.stks.length).length cv):=bO.cell 2
   have bO_3 : World.cell? w6 ⟨w2.heap.size,3,none⟩=some (.slice cr m.run.length crc):=bO.cell 3
   have bO_4 : World.cell? w6 ⟨w2.heap.size,4,none⟩=some (.int .i64 m.tag):=bO.cell 4
   have bO_5 : World.cell? w6 ⟨w2.heap.size,5,none⟩=some (.int .i64 m.call):=bO.cell 5
   have bO_f0 : World.frozen? w6 ⟨w2.heap.size,0,none⟩=false:=bO.frozen 0
   have bO_f1 : World.frozen? w6 ⟨w2.heap.size,1,none⟩=false:=bO.frozen 1
   have bO_f2 : World.frozen? w6 ⟨w2.heap.size,2,none⟩=false:=bO.frozen 2
   have bO_f3 : World.frozen? w6 ⟨w2.heap.size,3,none⟩=false:=bO.frozen 3
   have bO_f4 : World.frozen? w6 ⟨w2.heap.size,4,none⟩=false:=bO.frozen 4
   have bO_f5 : World.frozen? w6 ⟨w2.heap.size,5,none⟩=false:=bO.frozen 5
   have bO_l:=bO.lt
   go_upto_region 13 with fail
   clear bM_0 bM_1 bM_2 bM_3 bM_4 bM_5 bM_l bO_0 bO_1 bO_2 bO_3 bO_4 bO_5 bO_f0 bO_f1 bO_f2 bO_f3 bO_f4 bO_f5 bO_l
   have hS7 : ExtBut (fun b=>(w.heap.size≤b∧b < w.heap.size+2)∨b=w2.heap.size) w6 (World.setCell (World.setCell w6 ⟨w2.heap.size,0,none⟩ (.slice xa (m.mem.al.filter (·.live)).length xc)) ⟨w2.heap.size,1,none⟩ (.int .i64 m.mem.next)):=by (repeat' with_reducible first | exact ExtBut.refl _ _ | refine ExtBut.dr ?_ | refine ExtBut.sc ?_ ?_ | fail) <;> dsimp only <;> omega
   replace bM:=(Box.other (Box.other bM (p:=⟨w2.heap.size,0,none⟩) (by have:=szbO.out;show w2.heap.size≠w.heap.size;omega) (.slice xa (m.mem.al.filter (·.live)).length xc)) (p:=⟨w2.heap.size,1,none⟩) (by have:=szbO.out;show w2.heap.size≠w.heap.size;omega) (.int .i64 m.mem.next))
   replace bR:=(Box.other (Box.other bR (p:=⟨w2.heap.size,0,none⟩) (by have:=szbO.out;show w2.heap.size≠w.heap.size+1;omega) (.slice xa (m.mem.al.filter (·.live)).length xc)) (p:=⟨w2.heap.size,1,none⟩) (by have:=szbO.out;show w2.heap.size≠w.heap.size+1;omega) (.int .i64 m.mem.next))
   replace bO:=(Box.setL (Box.setL bO 0 (.slice xa (m.mem.al.filter (·.live)).length xc)) 1 (.int .i64 m.mem.next))
   simp only [List.set_cons_zero,List.set_cons_succ] at bO
   obtain ⟨w7s,hw7⟩ : ∃ z,(World.setCell (World.setCell w6 ⟨w2.heap.size,0,none⟩ (.slice xa (m.mem.al.filter (·.live)).length xc)) ⟨w2.heap.size,1,none⟩ (.int .i64 m.mem.next))=z:=⟨_,rfl⟩
   rw [hw7] at hS7 bM bR bO ⊢
   clear hw7
   have hF7:=ExtBut.ext hF6 hS7 (fun b h=>by have h0:=szbO.out;rcases h with h | h <;> omega)
   replace hXz:=Lib.hid (ExtBut.trans hXz.out hS7)
   replace hXm:=Lib.hid (ExtBut.trans hXm.out hS7)
   clear hS7
   obtain ⟨bM_0,bM_1,bM_2,bM_3,bM_4,bM_5,bM_l⟩:=bM.c6
   have bR_0 : World.cell? w7s ⟨w.heap.size+1,0,none⟩=some (.slice none 0 0):=bR.cell 0
   have bR_1 : World.cell? w7s ⟨w.heap.size+1,1,none⟩=some (.int .i64 0):=bR.cell 1
   have bR_2 : World.cell? w7s ⟨w.heap.size+1,2,none⟩=some (.slice none 0 0):=bR.cell 2
   have bR_3 : World.cell? w7s ⟨w.heap.size+1,3,none⟩=some (.slice none 0 0):=bR.cell 3
   have bR_4 : World.cell? w7s ⟨w.heap.size+1,4,none⟩=some (.int .i64 0):=bR.cell 4
   have bR_5 : World.cell? w7s ⟨w.heap.size+1,5,none⟩=some (.int .i64 0):=bR.cell 5
   have bR_f0 : World.frozen? w7s ⟨w.heap.size+1,0,none⟩=false:=bR.frozen 0
   have bR_f1 : World.frozen? w7s ⟨w.heap.size+1,1,none⟩=false:=bR.frozen 1
   have bR_f2 : World.frozen? w7s ⟨w.heap.size+1,2,none⟩=false:=bR.frozen 2
   have bR_f3 : World.frozen? w7s ⟨w.heap.size+1,3,none⟩=false:=bR.frozen 3
   have bR_f4 : World.frozen? w7s ⟨w.heap.size+1,4,none⟩=false:=bR.frozen 4
   have bR_f5 : World.frozen? w7s ⟨w.heap.size+1,5,none⟩=false:=bR.frozen 5
   have bR_l:=bR.lt
   obtain ⟨bO_0,bO_1,bO_2,bO_3,bO_4,bO_5,bO_l⟩:=bO.c6
   go_wp2
   rw [hres.out]
   have hXe : ExtBut (fun b=>(w.heap.size≤b∧b < w.heap.size+2)∨b=w2.heap.size) w7s (World.setCell (World.setCell (World.setCell (World.setCell (World.setCell (World.setCell w7s ⟨w.heap.size+1,0,none⟩ (.slice xa (m.mem.al.filter (·.live)).length xc)) ⟨w.heap.size+1,1,none⟩ (.int .i64 m.mem.next)) ⟨w.heap.size+1,2,none⟩ (.slice av (zk vs m.stks m.mem.al m.stks.length).length cv)) ⟨w.heap.size+1,3,none⟩ (.slice cr m.run.length crc)) ⟨w.heap.size+1,4,none⟩ (.int .i64 m.tag)) ⟨w.heap.size+1,5,none⟩ (.int .i64 m.call)):=by (repeat' with_reducible first | exact ExtBut.refl _ _ | refine ExtBut.dr ?_ | refine ExtBut.sc ?_ ?_ | fail) <;> dsimp only <;> omega
   refine bodyPost_ret (v := .tuple #[.agg #[.slice xa (m.mem.al.filter (·.live)).length xc,.int .i64 m.mem.next,.slice av (zk vs m.stks m.mem.al m.stks.length).length cv,.slice cr m.run.length crc,.int .i64 m.tag,.int .i64 m.call],.int .i64 0]) (by simp [results,Try.f18,go_sem,bR_0,bR_1,bR_2,bR_3,bR_4,bR_5]) rfl ?_
   have hFe:=ExtBut.ext hF7 hXe (fun b h=>by have h0:=szbO.out;rcases h with h | h <;> omega)
   have hXze:=ExtBut.trans hXz.out hXe
   have hXme:=ExtBut.trans hXm.out hXe
   have hm1:=hXms.out;have hm2:=hBO0.out;have hm3:=szbO.out
   exact ⟨_,rfl,FrMon.of_fs (m:=⟨⟨m.mem.al.filter (·.live),m.mem.next⟩,keptK m.stks m.mem.al,m.run,m.tag,m.call⟩) (hx.out.to (S':=fun b=>w.heap.size≤b) hXme (fun b h1 _ h2=>by rcases h2 with h2 | h2 <;> omega) (fun b h1 _=>by omega)) (hKf.out.to (S':=fun b=>w.heap.size≤b) hXze (fun b h1 _ h2=>by rcases h2 with h2 | h2 <;> omega) (fun b h1 _=>by omega)) (hRf.out.to (S':=fun b=>w.heap.size≤b) hXze (fun b h1 _ h2=>by rcases h2 with h2 | h2 <;> omega) (fun b h1 _=>by omega)),hFe⟩
end Go.Proofs.Ytnplphcnagooeaa
