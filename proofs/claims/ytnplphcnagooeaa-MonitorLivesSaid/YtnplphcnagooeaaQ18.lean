/- Several texts in one: RfF. -/
import Derived.Test.YtnplphcnagooeaaQ17
import Derived.Test.YtnplphcnagooeaaQ10
import Derived.Deep.RegionLaw
/- Contracts: the reference's Alloc of layer 35. (printed by gen/ref35f.py) -/
namespace Go.Proofs.Ytnplphcnagooeaa
set_option maxRecDepth 100000
open Go.RowKit
theorem OwnK.grown {wT wx w' : World} {N BO : Nat} {v v' s : Value} {vs : List Value} {l : List Stk} {x : Stk} (h : OwnK wT N v vs l) (hX : ExtBut (fun b=>b < N∨b=BO) wT wx) (hN : N≤wT.heap.size) (hBO : wT.heap.size≤BO) (hBx : BO < wx.heap.size)
  (hR : Fq (fun b=>BO < b) wx (fun w=>Sts w s x.cells)) (hO : Own w' N 58 2 v' (l.length+1) (trows krow vs l ++ krow s x)) (hK : Keeps wx w' N v) (hb : v'.ownBlock=v.ownBlock ∨ ∃ g,v'.ownBlock=some g∧wx.heap.size≤g) :
  Fq (fun b=>N≤b∧b≠BO) w' (fun w=>Kts w v' (l ++ [x])):=by
 have hXX : ExtBut (fun b=>b < N∨b=BO∨v.ownBlock=some b) wT w':=(hX.mono (fun b _ h=>by rcases h with h | h;exact .inl h;exact .inr (.inl h))).trans ((ExtBut.of_keeps hK).mono (fun b _ h => .inr (.inr h)))
 have hlt : ∀ b,v.ownBlock=some b→N≤b∧b < wT.heap.size:=fun b e=>h.outer.lt e
 intro w'' hw
 refine ⟨vs ++ [s],All2.iff.2 ⟨by simp [h.len],fun i u y hu hy => ?_⟩,?_⟩
 ·by_cases hi : i < vs.length
  ·rw [List.getElem?_append_left hi] at hu
   rw [List.getElem?_append_left (by rw [← h.len];exact hi)] at hy
   exact ((h.inner i u y hu hy).to (S':=fun b=>N≤b∧b≠BO) hXX (fun b h1 hl h2=>by rcases h2 with h2 | h2 | h2;omega;omega;exact h1.2 h2) (fun b h1 hl=>⟨h1.1,by omega⟩)) w'' hw
  ·have hlt2:=(List.getElem?_eq_some_iff.1 hu).1
   have hl:=h.len
   simp at hlt2
   obtain rfl : i=vs.length:=by omega
   simp at hu
   rw [hl] at hy
   simp at hy
   subst hu hy
   exact (hR.to (S':=fun b=>N≤b∧b≠BO) (ExtBut.of_keeps hK) (fun b h1 hl h2=>by have:=hlt b h2;omega) (fun b h1 hl=>⟨by omega,by omega⟩)) w'' hw
 ·have h7:=hO.fs w'' fun b e hl=>hw b ⟨(hO.lt e).1,fun h8=>by
   subst h8
   rcases hb with hb | ⟨g,hb,hg⟩
   ·have:=hlt b (hb.symm.trans e);omega
   ·have h9 : some g=some b:=hb.symm.trans e
    cases h9
    omega⟩ hl
  rw [List.length_append,trows_append krow h.len,trows_one]
  exact h7
set_option maxRecDepth 100000 in
set_option maxHeartbeats 12800000 in
theorem ref35_Alloc {m : Mon} {sa ss sr : Value} {w : World} (size : Int) (hA : Als w sa m.mem.al) (hn : i64B m.mem.next) (hK : Kts w ss m.stks) (hR : Nts w sr m.run) :
  Calls Try.prog 7 #[.agg #[sa,.int .i64 m.mem.next,ss,sr,.int .i64 m.tag,.int .i64 m.call],.int .i64 size] w (RetF w (fun v => .tuple #[v,(allocM m size).2.1.val,.int .i64 (allocM m size).2.2]) (allocM m size).1):=by
 obtain ⟨aa,ac,rfl,hac,hacm,-⟩:=hA.form
 obtain ⟨ka,kc,rfl,hkc,hkcm,-⟩:=hK.form
 obtain ⟨ra,rc,rfl,hrc,hrcm,-⟩:=hR.form
 unfold maxLen at hacm hkcm hrcm
 have hE0 : Ext w (World.alloc (World.alloc (World.alloc w (.cells #[.slice aa m.mem.al.length ac,.int .i64 m.mem.next,.slice ka m.stks.length kc,.slice ra m.run.length rc,.int .i64 m.tag,.int .i64 m.call] 28)) (.cells #[.slice none 0 0,.int .i64 0,.slice none 0 0,.slice none 0 0,.int .i64 0,.int .i64 0] 28)) (.cells #[.int .i64 0,.int .i64 0,.int .i64 0] 32)):=by repeat (first | exact Ext.refl _ | refine Ext.alloc ?_ _)
 have bM : Box (World.alloc (World.alloc (World.alloc w (.cells #[.slice aa m.mem.al.length ac,.int .i64 m.mem.next,.slice ka m.stks.length kc,.slice ra m.run.length rc,.int .i64 m.tag,.int .i64 m.call] 28)) (.cells #[.slice none 0 0,.int .i64 0,.slice none 0 0,.slice none 0 0,.int .i64 0,.int .i64 0] 28)) (.cells #[.int .i64 0,.int .i64 0,.int .i64 0] 32)) (w.heap.size) 28 #[.slice aa m.mem.al.length ac,.int .i64 m.mem.next,.slice ka m.stks.length kc,.slice ra m.run.length rc,.int .i64 m.tag,.int .i64 m.call]:=(by
  have h:=Box.new w 28 #[.slice aa m.mem.al.length ac,.int .i64 m.mem.next,.slice ka m.stks.length kc,.slice ra m.run.length rc,.int .i64 m.tag,.int .i64 m.call]
  replace h:=Box.ext h ((Ext.refl _).alloc (.cells #[.slice none 0 0,.int .i64 0,.slice none 0 0,.slice none 0 0,.int .i64 0,.int .i64 0] 28))
  replace h:=Box.ext h ((Ext.refl _).alloc (.cells #[.int .i64 0,.int .i64 0,.int .i64 0] 32))
  exact h)
 have bR : Box (World.alloc (World.alloc (World.alloc w (.cells #[.slice aa m.mem.al.length ac,.int .i64 m.mem.next,.slice ka m.stks.length kc,.slice ra m.run.length rc,.int .i64 m.tag,.int .i64 m.call] 28)) (.cells #[.slice none 0 0,.int .i64 0,.slice none 0 0,.slice none 0 0,.int .i64 0,.int .i64 0] 28)) (.cells #[.int .i64 0,.int .i64 0,.int .i64 0] 32)) (w.heap.size+1) 28 #[.slice none 0 0,.int .i64 0,.slice none 0 0,.slice none 0 0,.int .i64 0,.int .i64 0]:=(by
  have h:=Box.new (World.alloc w (.cells #[.slice aa m.mem.al.length ac,.int .i64 m.mem.next,.slice ka m.stks.length kc,.slice ra m.run.length rc,.int .i64 m.tag,.int .i64 m.call] 28)) 28 #[.slice none 0 0,.int .i64 0,.slice none 0 0,.slice none 0 0,.int .i64 0,.int .i64 0]
  simp only [World.size_alloc] at h
  replace h:=Box.ext h ((Ext.refl _).alloc (.cells #[.int .i64 0,.int .i64 0,.int .i64 0] 32))
  exact h)
 have bP : Box (World.alloc (World.alloc (World.alloc w (.cells #[.slice aa m.mem.al.length ac,.int .i64 m.mem.next,.slice ka m.stks.length kc,.slice ra m.run.length rc,.int .i64 m.tag,.int .i64 m.call] 28)) (.cells #[.slice none 0 0,.int .i64 0,.slice none 0 0,.slice none 0 0,.int .i64 0,.int .i64 0] 28)) (.cells #[.int .i64 0,.int .i64 0,.int .i64 0] 32)) (w.heap.size+2) 32 #[.int .i64 0,.int .i64 0,.int .i64 0]:=(by
  have h:=Box.new (World.alloc (World.alloc w (.cells #[.slice aa m.mem.al.length ac,.int .i64 m.mem.next,.slice ka m.stks.length kc,.slice ra m.run.length rc,.int .i64 m.tag,.int .i64 m.call] 28)) (.cells #[.slice none 0 0,.int .i64 0,.slice none 0 0,.slice none 0 0,.int .i64 0,.int .i64 0] 28)) 32 #[.int .i64 0,.int .i64 0,.int .i64 0]
  simp only [World.size_alloc] at h
  exact h)
 obtain ⟨w0,hw0⟩ : ∃ z,(World.alloc (World.alloc (World.alloc w (.cells #[.slice aa m.mem.al.length ac,.int .i64 m.mem.next,.slice ka m.stks.length kc,.slice ra m.run.length rc,.int .i64 m.tag,.int .i64 m.call] 28)) (.cells #[.slice none 0 0,.int .i64 0,.slice none 0 0,.slice none 0 0,.int .i64 0,.int .i64 0] 28)) (.cells #[.int .i64 0,.int .i64 0,.int .i64 0] 32))=z:=⟨_,rfl⟩
 rw [hw0] at hE0 bM bR bP
 have hs0 : w0.heap.size=w.heap.size+3:=by rw [← hw0];simp
 replace hs0:=Lib.hid hs0
 replace hA:=Lib.hid hA
 replace hK:=Lib.hid hK
 replace hR:=Lib.hid hR
 replace hn:=Lib.hid hn
 cases hok : okMon m
 ·skip
  have hce:=Lib.hid (monErr_not hok)
  have hres:=Lib.hid (allocM_bad (size:=size) hok)
  clear hok
  go_enter Try.func7,Try.ntmps7
  obtain ⟨bM_0,bM_1,bM_2,bM_3,bM_4,bM_5,bM_l⟩:=bM.c6
  go_wp2_with fail
  clear bM_0 bM_1 bM_2 bM_3 bM_4 bM_5 bM_l
  refine (ref35_Check (hA.out.ext hE0) hn.out (hK.out.ext hE0) (hR.out.ext hE0)).mono ?_
  rintro e w1 ⟨rfl,hE1⟩
  replace bM:=bM.ext hE1
  replace bR:=bR.ext hE1
  replace bP:=bP.ext hE1
  have hF1:=Ext.trans hE0 hE1
  rw [hce.out]
  clear hw0
  obtain ⟨bM_0,bM_1,bM_2,bM_3,bM_4,bM_5,bM_l⟩:=bM.c6
  have bR_0 : World.cell? w1 ⟨w.heap.size+1,0,none⟩=some (.slice none 0 0):=bR.cell 0
  have bR_1 : World.cell? w1 ⟨w.heap.size+1,1,none⟩=some (.int .i64 0):=bR.cell 1
  have bR_2 : World.cell? w1 ⟨w.heap.size+1,2,none⟩=some (.slice none 0 0):=bR.cell 2
  have bR_3 : World.cell? w1 ⟨w.heap.size+1,3,none⟩=some (.slice none 0 0):=bR.cell 3
  have bR_4 : World.cell? w1 ⟨w.heap.size+1,4,none⟩=some (.int .i64 0):=bR.cell 4
  have bR_5 : World.cell? w1 ⟨w.heap.size+1,5,none⟩=some (.int .i64 0):=bR.cell 5
  have bR_f0 : World.frozen? w1 ⟨w.heap.size+1,0,none⟩=false:=bR.frozen 0
  have bR_f1 : World.frozen? w1 ⟨w.heap.size+1,1,none⟩=false:=bR.frozen 1
  have bR_f2 : World.frozen? w1 ⟨w.heap.size+1,2,none⟩=false:=bR.frozen 2
  have bR_f3 : World.frozen? w1 ⟨w.heap.size+1,3,none⟩=false:=bR.frozen 3
  have bR_f4 : World.frozen? w1 ⟨w.heap.size+1,4,none⟩=false:=bR.frozen 4
  have bR_f5 : World.frozen? w1 ⟨w.heap.size+1,5,none⟩=false:=bR.frozen 5
  have bR_l:=bR.lt
  have bP_0 : World.cell? w1 ⟨w.heap.size+2,0,none⟩=some (.int .i64 0):=bP.cell 0
  have bP_1 : World.cell? w1 ⟨w.heap.size+2,1,none⟩=some (.int .i64 0):=bP.cell 1
  have bP_2 : World.cell? w1 ⟨w.heap.size+2,2,none⟩=some (.int .i64 0):=bP.cell 2
  have bP_f0 : World.frozen? w1 ⟨w.heap.size+2,0,none⟩=false:=bP.frozen 0
  have bP_f1 : World.frozen? w1 ⟨w.heap.size+2,1,none⟩=false:=bP.frozen 1
  have bP_f2 : World.frozen? w1 ⟨w.heap.size+2,2,none⟩=false:=bP.frozen 2
  have bP_l:=bP.lt
  go_wp2
  rw [hres.out]
  have hXe : ExtBut (fun b=>w.heap.size≤b∧b < w.heap.size+3) w1 (World.setCell (World.setCell (World.setCell (World.setCell (World.setCell (World.setCell (World.setCell (World.setCell (World.setCell w1 ⟨w.heap.size+1,0,none⟩ (.slice none 0 0)) ⟨w.heap.size+1,1,none⟩ (.int .i64 0)) ⟨w.heap.size+1,2,none⟩ (.slice none 0 0)) ⟨w.heap.size+1,3,none⟩ (.slice none 0 0)) ⟨w.heap.size+1,4,none⟩ (.int .i64 0)) ⟨w.heap.size+1,5,none⟩ (.int .i64 0)) ⟨w.heap.size+2,0,none⟩ (.int .i64 0)) ⟨w.heap.size+2,1,none⟩ (.int .i64 0)) ⟨w.heap.size+2,2,none⟩ (.int .i64 0)):=by (repeat' with_reducible first | exact ExtBut.refl _ _ | refine ExtBut.dr ?_ | refine ExtBut.sc ?_ ?_ | fail) <;> dsimp only <;> omega
  refine bodyPost_ret (v := .tuple #[.agg #[.slice none 0 0,.int .i64 0,.slice none 0 0,.slice none 0 0,.int .i64 0,.int .i64 0],.agg #[.int .i64 0,.int .i64 0,.int .i64 0],.int .i64 8]) (by simp [results,Try.f7,go_sem,bR_0,bR_1,bR_2,bR_3,bR_4,bR_5,bP_0,bP_1,bP_2]) rfl ?_
  have hFe:=ExtBut.ext hF1 hXe (fun b h=>h.1)
  exact ⟨_,rfl,FrMon.zero _ _,hFe⟩
 have hMok:=MonOk.of hok
 have hce:=Lib.hid (monErr_of hok)
 have hcl:=Lib.hid hMok.small
 obtain ⟨⟨x,n,er⟩,har⟩ : ∃ z,addR m.mem size=z:=⟨_,rfl⟩
 by_cases he : er=0
 rotate_left
 ·skip
  have q1 : (er != 0)=true:=by simpa using he
  have hres:=Lib.hid (allocM_add hok (by rw [har];exact he) : allocM m size=_)
  rw [har] at hres
  have harh:=Lib.hid har
  clear hok hMok he har
  go_enter Try.func7,Try.ntmps7
  obtain ⟨bM_0,bM_1,bM_2,bM_3,bM_4,bM_5,bM_l⟩:=bM.c6
  go_wp2_with fail
  clear bM_0 bM_1 bM_2 bM_3 bM_4 bM_5 bM_l
  refine (ref35_Check (hA.out.ext hE0) hn.out (hK.out.ext hE0) (hR.out.ext hE0)).mono ?_
  rintro e w1 ⟨rfl,hE1⟩
  replace bM:=bM.ext hE1
  replace bR:=bR.ext hE1
  replace bP:=bP.ext hE1
  have hF1:=Ext.trans hE0 hE1
  rw [hce.out]
  clear hw0
  obtain ⟨bM_0,bM_1,bM_2,bM_3,bM_4,bM_5,bM_l⟩:=bM.c6
  go_wp2_with fail
  clear bM_0 bM_1 bM_2 bM_3 bM_4 bM_5 bM_l
  have hXas:=Lib.hid (by have:=bP.lt;omega : w.heap.size+3≤w1.heap.size)
  refine (ref26_Add size (hA.out.ext hF1) hn.out).mono ?_
  rintro e w2 ⟨v,rfl,fM,hE2⟩
  replace bM:=bM.ext hE2
  replace bR:=bR.ext hE2
  replace bP:=bP.ext hE2
  have hF2:=Ext.trans hF1 hE2
  rw [harh.out] at fM ⊢
  obtain ⟨sx,rfl,hx⟩:=FrM.fs fM
  clear fM
  have hv:=hx.read.form
  obtain ⟨xa,xc,rfl,-⟩:=hv
  dsimp only at hx ⊢
  replace hx:=Lib.hid hx
  have hXa:=Lib.hid (ExtBut.refl (fun b=>w.heap.size≤b∧b < w.heap.size+3) w2)
  obtain ⟨bM_0,bM_1,bM_2,bM_3,bM_4,bM_5,bM_l⟩:=bM.c6
  go_upto_region 6 with fail
  clear bM_0 bM_1 bM_2 bM_3 bM_4 bM_5 bM_l
  have szbQ:=Lib.hid (by have:=bP.lt;omega : w.heap.size+3≤w2.heap.size)
  have bQ:=Box.new w2 24 #[.slice xa x.al.length xc,.int .i64 x.next]
  have hzb0 : (World.alloc w2 (.cells #[.slice xa x.al.length xc,.int .i64 x.next] 24)).heap.size=w2.heap.size+1:=by rw [World.size_alloc]
  have hx3 : Ext w2 (World.alloc w2 (.cells #[.slice xa x.al.length xc,.int .i64 x.next] 24)):=(Ext.refl _).alloc _
  obtain ⟨w3b,hw3⟩ : ∃ z,World.alloc w2 (.cells #[.slice xa x.al.length xc,.int .i64 x.next] 24)=z:=⟨_,rfl⟩
  rw [hw3] at bQ hx3 hzb0 ⊢
  clear hw3
  replace bM:=bM.ext hx3
  replace bR:=bR.ext hx3
  replace bP:=bP.ext hx3
  replace hXa:=Lib.hid (ExtBut.trans hXa.out (ExtBut.of_ext hx3))
  have hF4:=Ext.trans hF2 hx3
  clear hzb0
  obtain ⟨bM_0,bM_1,bM_2,bM_3,bM_4,bM_5,bM_l⟩:=bM.c6
  have bR_0 : World.cell? w3b ⟨w.heap.size+1,0,none⟩=some (.slice none 0 0):=bR.cell 0
  have bR_1 : World.cell? w3b ⟨w.heap.size+1,1,none⟩=some (.int .i64 0):=bR.cell 1
  have bR_2 : World.cell? w3b ⟨w.heap.size+1,2,none⟩=some (.slice none 0 0):=bR.cell 2
  have bR_3 : World.cell? w3b ⟨w.heap.size+1,3,none⟩=some (.slice none 0 0):=bR.cell 3
  have bR_4 : World.cell? w3b ⟨w.heap.size+1,4,none⟩=some (.int .i64 0):=bR.cell 4
  have bR_5 : World.cell? w3b ⟨w.heap.size+1,5,none⟩=some (.int .i64 0):=bR.cell 5
  have bR_f0 : World.frozen? w3b ⟨w.heap.size+1,0,none⟩=false:=bR.frozen 0
  have bR_f1 : World.frozen? w3b ⟨w.heap.size+1,1,none⟩=false:=bR.frozen 1
  have bR_f2 : World.frozen? w3b ⟨w.heap.size+1,2,none⟩=false:=bR.frozen 2
  have bR_f3 : World.frozen? w3b ⟨w.heap.size+1,3,none⟩=false:=bR.frozen 3
  have bR_f4 : World.frozen? w3b ⟨w.heap.size+1,4,none⟩=false:=bR.frozen 4
  have bR_f5 : World.frozen? w3b ⟨w.heap.size+1,5,none⟩=false:=bR.frozen 5
  have bR_l:=bR.lt
  have bP_0 : World.cell? w3b ⟨w.heap.size+2,0,none⟩=some (.int .i64 0):=bP.cell 0
  have bP_1 : World.cell? w3b ⟨w.heap.size+2,1,none⟩=some (.int .i64 0):=bP.cell 1
  have bP_2 : World.cell? w3b ⟨w.heap.size+2,2,none⟩=some (.int .i64 0):=bP.cell 2
  have bP_f0 : World.frozen? w3b ⟨w.heap.size+2,0,none⟩=false:=bP.frozen 0
  have bP_f1 : World.frozen? w3b ⟨w.heap.size+2,1,none⟩=false:=bP.frozen 1
  have bP_f2 : World.frozen? w3b ⟨w.heap.size+2,2,none⟩=false:=bP.frozen 2
  have bP_l:=bP.lt
  go_wp2
  rw [hres.out]
  have hXe : ExtBut (fun b=>w.heap.size≤b∧b < w.heap.size+3) w3b (World.setCell (World.setCell (World.setCell (World.setCell (World.setCell (World.setCell (World.setCell (World.setCell (World.setCell w3b ⟨w.heap.size+1,0,none⟩ (.slice none 0 0)) ⟨w.heap.size+1,1,none⟩ (.int .i64 0)) ⟨w.heap.size+1,2,none⟩ (.slice none 0 0)) ⟨w.heap.size+1,3,none⟩ (.slice none 0 0)) ⟨w.heap.size+1,4,none⟩ (.int .i64 0)) ⟨w.heap.size+1,5,none⟩ (.int .i64 0)) ⟨w.heap.size+2,0,none⟩ (.int .i64 0)) ⟨w.heap.size+2,1,none⟩ (.int .i64 0)) ⟨w.heap.size+2,2,none⟩ (.int .i64 0)):=by (repeat' with_reducible first | exact ExtBut.refl _ _ | refine ExtBut.dr ?_ | refine ExtBut.sc ?_ ?_ | fail) <;> dsimp only <;> omega
  refine bodyPost_ret (v := .tuple #[.agg #[.slice none 0 0,.int .i64 0,.slice none 0 0,.slice none 0 0,.int .i64 0,.int .i64 0],.agg #[.int .i64 0,.int .i64 0,.int .i64 0],.int .i64 er]) (by simp [results,Try.f7,go_sem,bR_0,bR_1,bR_2,bR_3,bR_4,bR_5,bP_0,bP_1,bP_2]) rfl ?_
  have hFe:=ExtBut.ext hF4 hXe (fun b h=>h.1)
  have hXae:=ExtBut.trans hXa.out hXe
  exact ⟨_,rfl,FrMon.zero _ _,hFe⟩
 subst he
 have had:=addR_zero hMok.memOk har
 have harh:=Lib.hid har
 by_cases ht : m.tag=1000000
 ·skip
  have q2 : (m.tag == 1000000)=true:=by rw [ht];rfl
  have hres:=Lib.hid (allocM_full hok (by rw [har]) ht : allocM m size=_)
  clear hok hMok had har ht
  go_enter Try.func7,Try.ntmps7
  obtain ⟨bM_0,bM_1,bM_2,bM_3,bM_4,bM_5,bM_l⟩:=bM.c6
  go_wp2_with fail
  clear bM_0 bM_1 bM_2 bM_3 bM_4 bM_5 bM_l
  refine (ref35_Check (hA.out.ext hE0) hn.out (hK.out.ext hE0) (hR.out.ext hE0)).mono ?_
  rintro e w1 ⟨rfl,hE1⟩
  replace bM:=bM.ext hE1
  replace bR:=bR.ext hE1
  replace bP:=bP.ext hE1
  have hF1:=Ext.trans hE0 hE1
  rw [hce.out]
  clear hw0
  obtain ⟨bM_0,bM_1,bM_2,bM_3,bM_4,bM_5,bM_l⟩:=bM.c6
  go_wp2_with fail
  clear bM_0 bM_1 bM_2 bM_3 bM_4 bM_5 bM_l
  have hXas:=Lib.hid (by have:=bP.lt;omega : w.heap.size+3≤w1.heap.size)
  refine (ref26_Add size (hA.out.ext hF1) hn.out).mono ?_
  rintro e w2 ⟨v,rfl,fM,hE2⟩
  replace bM:=bM.ext hE2
  replace bR:=bR.ext hE2
  replace bP:=bP.ext hE2
  have hF2:=Ext.trans hF1 hE2
  rw [harh.out] at fM ⊢
  obtain ⟨sx,rfl,hx⟩:=FrM.fs fM
  clear fM
  have hv:=hx.read.form
  obtain ⟨xa,xc,rfl,-⟩:=hv
  dsimp only at hx ⊢
  replace hx:=Lib.hid hx
  have hXa:=Lib.hid (ExtBut.refl (fun b=>w.heap.size≤b∧b < w.heap.size+3) w2)
  obtain ⟨bM_0,bM_1,bM_2,bM_3,bM_4,bM_5,bM_l⟩:=bM.c6
  go_upto_region 8 with fail
  clear bM_0 bM_1 bM_2 bM_3 bM_4 bM_5 bM_l
  have szbQ:=Lib.hid (by have:=bP.lt;omega : w.heap.size+3≤w2.heap.size)
  have bQ:=Box.new w2 24 #[.slice xa x.al.length xc,.int .i64 x.next]
  have hzb0 : (World.alloc w2 (.cells #[.slice xa x.al.length xc,.int .i64 x.next] 24)).heap.size=w2.heap.size+1:=by rw [World.size_alloc]
  have hx3 : Ext w2 (World.alloc w2 (.cells #[.slice xa x.al.length xc,.int .i64 x.next] 24)):=(Ext.refl _).alloc _
  obtain ⟨w3b,hw3⟩ : ∃ z,World.alloc w2 (.cells #[.slice xa x.al.length xc,.int .i64 x.next] 24)=z:=⟨_,rfl⟩
  rw [hw3] at bQ hx3 hzb0 ⊢
  clear hw3
  replace bM:=bM.ext hx3
  replace bR:=bR.ext hx3
  replace bP:=bP.ext hx3
  replace hXa:=Lib.hid (ExtBut.trans hXa.out (ExtBut.of_ext hx3))
  have hF4:=Ext.trans hF2 hx3
  clear hzb0
  obtain ⟨bM_0,bM_1,bM_2,bM_3,bM_4,bM_5,bM_l⟩:=bM.c6
  have bR_0 : World.cell? w3b ⟨w.heap.size+1,0,none⟩=some (.slice none 0 0):=bR.cell 0
  have bR_1 : World.cell? w3b ⟨w.heap.size+1,1,none⟩=some (.int .i64 0):=bR.cell 1
  have bR_2 : World.cell? w3b ⟨w.heap.size+1,2,none⟩=some (.slice none 0 0):=bR.cell 2
  have bR_3 : World.cell? w3b ⟨w.heap.size+1,3,none⟩=some (.slice none 0 0):=bR.cell 3
  have bR_4 : World.cell? w3b ⟨w.heap.size+1,4,none⟩=some (.int .i64 0):=bR.cell 4
  have bR_5 : World.cell? w3b ⟨w.heap.size+1,5,none⟩=some (.int .i64 0):=bR.cell 5
  have bR_f0 : World.frozen? w3b ⟨w.heap.size+1,0,none⟩=false:=bR.frozen 0
  have bR_f1 : World.frozen? w3b ⟨w.heap.size+1,1,none⟩=false:=bR.frozen 1
  have bR_f2 : World.frozen? w3b ⟨w.heap.size+1,2,none⟩=false:=bR.frozen 2
  have bR_f3 : World.frozen? w3b ⟨w.heap.size+1,3,none⟩=false:=bR.frozen 3
  have bR_f4 : World.frozen? w3b ⟨w.heap.size+1,4,none⟩=false:=bR.frozen 4
  have bR_f5 : World.frozen? w3b ⟨w.heap.size+1,5,none⟩=false:=bR.frozen 5
  have bR_l:=bR.lt
  have bP_0 : World.cell? w3b ⟨w.heap.size+2,0,none⟩=some (.int .i64 0):=bP.cell 0
  have bP_1 : World.cell? w3b ⟨w.heap.size+2,1,none⟩=some (.int .i64 0):=bP.cell 1
  have bP_2 : World.cell? w3b ⟨w.heap.size+2,2,none⟩=some (.int .i64 0):=bP.cell 2
  have bP_f0 : World.frozen? w3b ⟨w.heap.size+2,0,none⟩=false:=bP.frozen 0
  have bP_f1 : World.frozen? w3b ⟨w.heap.size+2,1,none⟩=false:=bP.frozen 1
  have bP_f2 : World.frozen? w3b ⟨w.heap.size+2,2,none⟩=false:=bP.frozen 2
  have bP_l:=bP.lt
  go_wp2
  rw [hres.out]
  have hXe : ExtBut (fun b=>w.heap.size≤b∧b < w.heap.size+3) w3b (World.setCell (World.setCell (World.setCell (World.setCell (World.setCell (World.setCell (World.setCell (World.setCell (World.setCell w3b ⟨w.heap.size+1,0,none⟩ (.slice none 0 0)) ⟨w.heap.size+1,1,none⟩ (.int .i64 0)) ⟨w.heap.size+1,2,none⟩ (.slice none 0 0)) ⟨w.heap.size+1,3,none⟩ (.slice none 0 0)) ⟨w.heap.size+1,4,none⟩ (.int .i64 0)) ⟨w.heap.size+1,5,none⟩ (.int .i64 0)) ⟨w.heap.size+2,0,none⟩ (.int .i64 0)) ⟨w.heap.size+2,1,none⟩ (.int .i64 0)) ⟨w.heap.size+2,2,none⟩ (.int .i64 0)):=by (repeat' with_reducible first | exact ExtBut.refl _ _ | refine ExtBut.dr ?_ | refine ExtBut.sc ?_ ?_ | fail) <;> dsimp only <;> omega
  refine bodyPost_ret (v := .tuple #[.agg #[.slice none 0 0,.int .i64 0,.slice none 0 0,.slice none 0 0,.int .i64 0,.int .i64 0],.agg #[.int .i64 0,.int .i64 0,.int .i64 0],.int .i64 18]) (by simp [results,Try.f7,go_sem,bR_0,bR_1,bR_2,bR_3,bR_4,bR_5,bP_0,bP_1,bP_2]) rfl ?_
  have hFe:=ExtBut.ext hF4 hXe (fun b h=>h.1)
  have hXae:=ExtBut.trans hXa.out hXe
  exact ⟨_,rfl,FrMon.zero _ _,hFe⟩
 have q2 : (m.tag == 1000000)=false:=beq_eq_false_iff_ne.2 ht
 have hres:=allocM_ok hok (by rw [har]) ht (size:=size)
 rw [har] at hres
 have htb:=hMok.tag
 have w1 : IntKind.i64.wrap (m.tag+1)=m.tag+1:=IntWalk.i64_in _ (by omega)
 have hsb : Hid (0≤size∧size≤2):=Hid.mk ⟨by have:=had.2.1;omega,had.2.2.1⟩
 have hll:=Lib.hid (by rw [hMok.len];exact had.2.2.2.2.1 : m.stks.length < 400)
 obtain ⟨BS,hBS⟩ : ∃ z,based size.toNat m.tag=z:=⟨_,rfl⟩
 rw [hBS] at hres
 replace hres:=Lib.hid hres;replace hBS:=Lib.hid hBS
 clear hok hMok had har ht htb
 obtain ⟨ii,iz,hi,hz,hi3,hz3,hby⟩:=Stacks.infoE
 replace hi:=Lib.hid hi;replace hz:=Lib.hid hz;replace hi3:=Lib.hid hi3;replace hz3:=Lib.hid hz3;replace hby:=Lib.hid hby
 go_enter Try.func7,Try.ntmps7
 obtain ⟨bM_0,bM_1,bM_2,bM_3,bM_4,bM_5,bM_l⟩:=bM.c6
 go_wp2_with fail
 clear bM_0 bM_1 bM_2 bM_3 bM_4 bM_5 bM_l
 refine (ref35_Check (hA.out.ext hE0) hn.out (hK.out.ext hE0) (hR.out.ext hE0)).mono ?_
 rintro e w1 ⟨rfl,hE1⟩
 replace bM:=bM.ext hE1
 replace bR:=bR.ext hE1
 replace bP:=bP.ext hE1
 have hF1:=Ext.trans hE0 hE1
 rw [hce.out]
 clear hw0
 obtain ⟨bM_0,bM_1,bM_2,bM_3,bM_4,bM_5,bM_l⟩:=bM.c6
 go_wp2_with fail
 clear bM_0 bM_1 bM_2 bM_3 bM_4 bM_5 bM_l
 have hXas:=Lib.hid (by have:=bP.lt;omega : w.heap.size+3≤w1.heap.size)
 refine (ref26_Add size (hA.out.ext hF1) hn.out).mono ?_
 rintro e w2 ⟨v,rfl,fM,hE2⟩
 replace bM:=bM.ext hE2
 replace bR:=bR.ext hE2
 replace bP:=bP.ext hE2
 have hF2:=Ext.trans hF1 hE2
 rw [harh.out] at fM ⊢
 obtain ⟨sx,rfl,hx⟩:=FrM.fs fM
 clear fM
 have hv:=hx.read.form
 obtain ⟨xa,xc,rfl,-⟩:=hv
 dsimp only at hx ⊢
 replace hx:=Lib.hid hx
 have hXa:=Lib.hid (ExtBut.refl (fun b=>w.heap.size≤b∧b < w.heap.size+3) w2)
 obtain ⟨bM_0,bM_1,bM_2,bM_3,bM_4,bM_5,bM_l⟩:=bM.c6
 go_wp2_with fail
 clear bM_0 bM_1 bM_2 bM_3 bM_4 bM_5 bM_l
 have szbQ:=Lib.hid (by have:=bP.lt;omega : w.heap.size+3≤w2.heap.size)
 have bQ:=Box.new w2 24 #[.slice xa x.al.length xc,.int .i64 x.next]
 have hzb0 : (World.alloc w2 (.cells #[.slice xa x.al.length xc,.int .i64 x.next] 24)).heap.size=w2.heap.size+1:=by rw [World.size_alloc]
 have hx3 : Ext w2 (World.alloc w2 (.cells #[.slice xa x.al.length xc,.int .i64 x.next] 24)):=(Ext.refl _).alloc _
 obtain ⟨w3b,hw3⟩ : ∃ z,World.alloc w2 (.cells #[.slice xa x.al.length xc,.int .i64 x.next] 24)=z:=⟨_,rfl⟩
 rw [hw3] at bQ hx3 hzb0 ⊢
 clear hw3
 replace bM:=bM.ext hx3
 replace bR:=bR.ext hx3
 replace bP:=bP.ext hx3
 replace hXa:=Lib.hid (ExtBut.trans hXa.out (ExtBut.of_ext hx3))
 have hF4:=Ext.trans hF2 hx3
 clear hzb0
 have hXcs:=Lib.hid (by have:=bP.lt;omega : w.heap.size+3≤w3b.heap.size)
 have hXa_hXc:=Lib.hid hXa.out.size
 refine (ref35_Twin (hA.out.ext hF4) (hK.out.ext hF4) (hR.out.ext hF4) hcl.out.1 hcl.out.2.1 hcl.out.2.2).mono ?_
 rintro e w5 ⟨TN,ca,ck,cr,vsA,vs,rfl,hC,hE5⟩
 replace bM:=bM.ext hE5
 replace bR:=bR.ext hE5
 replace bP:=bP.ext hE5
 replace bQ:=bQ.ext hE5
 replace hXa:=Lib.hid (ExtBut.trans hXa.out (ExtBut.of_ext hE5))
 have hF5:=Ext.trans hF4 hE5
 have hv:=(OM.read hC.al).form
 obtain ⟨ca,cac,rfl,-⟩:=hv
 have hv:=hC.stk.outer.sl.slice_form
 obtain ⟨ck,ckc,rfl,-⟩:=hv
 have hv:=hC.run.sl.slice_form
 obtain ⟨cr,crc,rfl,-⟩:=hv
 replace hC:=Lib.hid hC
 have hXc:=Lib.hid (ExtBut.refl (fun b=>w.heap.size≤b∧b < w.heap.size+3) w5)
 have hTl:=Lib.hid (hC.out.low.1)
 have hTs:=Lib.hid (hC.out.low.2)
 have hQl:=Lib.hid bQ.lt
 obtain ⟨bM_0,bM_1,bM_2,bM_3,bM_4,bM_5,bM_l⟩:=bM.c6
 go_upto_region 10 with fail
 clear bM_0 bM_1 bM_2 bM_3 bM_4 bM_5 bM_l
 have szbO:=Lib.hid (by have:=bP.lt;omega : w.heap.size+3≤w5.heap.size)
 have bO:=Box.new w5 28 #[.slice ca m.mem.al.length cac,.int .i64 m.mem.next,.slice ck m.stks.length ckc,.slice cr m.run.length crc,.int .i64 m.tag,.int .i64 m.call]
 have hzb0 : (World.alloc w5 (.cells #[.slice ca m.mem.al.length cac,.int .i64 m.mem.next,.slice ck m.stks.length ckc,.slice cr m.run.length crc,.int .i64 m.tag,.int .i64 m.call] 28)).heap.size=w5.heap.size+1:=by rw [World.size_alloc]
 have hx6 : Ext w5 (World.alloc w5 (.cells #[.slice ca m.mem.al.length cac,.int .i64 m.mem.next,.slice ck m.stks.length ckc,.slice cr m.run.length crc,.int .i64 m.tag,.int .i64 m.call] 28)):=(Ext.refl _).alloc _
 obtain ⟨w6b,hw6⟩ : ∃ z,World.alloc w5 (.cells #[.slice ca m.mem.al.length cac,.int .i64 m.mem.next,.slice ck m.stks.length ckc,.slice cr m.run.length crc,.int .i64 m.tag,.int .i64 m.call] 28)=z:=⟨_,rfl⟩
 rw [hw6] at bO hx6 hzb0 ⊢
 clear hw6
 replace bM:=bM.ext hx6
 replace bR:=bR.ext hx6
 replace bP:=bP.ext hx6
 replace bQ:=bQ.ext hx6
 replace hXa:=Lib.hid (ExtBut.trans hXa.out (ExtBut.of_ext hx6))
 replace hXc:=Lib.hid (ExtBut.trans hXc.out (ExtBut.of_ext hx6))
 have hF7:=Ext.trans hF5 hx6
 clear hzb0
 replace hXa:=Lib.hid (ExtBut.mono hXa.out (S':=(fun b=>(w.heap.size≤b∧b < w.heap.size+3)∨b=w5.heap.size)) (fun b _ h => .inl h))
 replace hXc:=Lib.hid (ExtBut.mono hXc.out (S':=(fun b=>(w.heap.size≤b∧b < w.heap.size+3)∨b=w5.heap.size)) (fun b _ h => .inl h))
 obtain ⟨bM_0,bM_1,bM_2,bM_3,bM_4,bM_5,bM_l⟩:=bM.c6
 obtain ⟨bQ_0,bQ_1,bQ_l⟩:=bQ.c2
 have bO_0 : World.cell? w6b ⟨w5.heap.size,0,none⟩=some (.slice ca m.mem.al.length cac):=bO.cell 0
 have bO_1 : World.cell? w6b ⟨w5.heap.size,1,none⟩=some (.int .i64 m.mem.next):=bO.cell 1
 have bO_2 : World.cell? w6b ⟨w5.heap.size,2,none⟩=some (.slice ck m.stks.length ckc):=bO.cell 2
 have bO_3 : World.cell? w6b ⟨w5.heap.size,3,none⟩=some (.slice cr m.run.length crc):=bO.cell 3
 have bO_4 : World.cell? w6b ⟨w5.heap.size,4,none⟩=some (.int .i64 m.tag):=bO.cell 4
 have bO_5 : World.cell? w6b ⟨w5.heap.size,5,none⟩=some (.int .i64 m.call):=bO.cell 5
 have bO_f0 : World.frozen? w6b ⟨w5.heap.size,0,none⟩=false:=bO.frozen 0
 have bO_f1 : World.frozen? w6b ⟨w5.heap.size,1,none⟩=false:=bO.frozen 1
 have bO_f2 : World.frozen? w6b ⟨w5.heap.size,2,none⟩=false:=bO.frozen 2
 have bO_f3 : World.frozen? w6b ⟨w5.heap.size,3,none⟩=false:=bO.frozen 3
 have bO_f4 : World.frozen? w6b ⟨w5.heap.size,4,none⟩=false:=bO.frozen 4
 have bO_f5 : World.frozen? w6b ⟨w5.heap.size,5,none⟩=false:=bO.frozen 5
 have bO_l:=bO.lt
 go_upto_region 11 with fail
 clear bM_0 bM_1 bM_2 bM_3 bM_4 bM_5 bM_l bQ_0 bQ_1 bQ_l bO_0 bO_1 bO_2 bO_3 bO_4 bO_5 bO_f0 bO_f1 bO_f2 bO_f3 bO_f4 bO_f5 bO_l
 have hS8 : ExtBut (fun b=>(w.heap.size≤b∧b < w.heap.size+3)∨b=w5.heap.size) w6b (World.setCell (World.setCell w6b ⟨w5.heap.size,0,none⟩ (.slice xa x.al.length xc)) ⟨w5.heap.size,1,none⟩ (.int .i64 x.next)):=by (repeat' with_reducible first | exact ExtBut.refl _ _ | refine ExtBut.dr ?_ | refine ExtBut.sc ?_ ?_ | fail) <;> dsimp only <;> omega
 replace bM:=(Box.other (Box.other bM (p:=⟨w5.heap.size,0,none⟩) (by have:=szbO.out;show w5.heap.size≠w.heap.size;omega) (.slice xa x.al.length xc)) (p:=⟨w5.heap.size,1,none⟩) (by have:=szbO.out;show w5.heap.size≠w.heap.size;omega) (.int .i64 x.next))
 replace bR:=(Box.other (Box.other bR (p:=⟨w5.heap.size,0,none⟩) (by have:=szbO.out;show w5.heap.size≠w.heap.size+1;omega) (.slice xa x.al.length xc)) (p:=⟨w5.heap.size,1,none⟩) (by have:=szbO.out;show w5.heap.size≠w.heap.size+1;omega) (.int .i64 x.next))
 replace bP:=(Box.other (Box.other bP (p:=⟨w5.heap.size,0,none⟩) (by have:=szbO.out;show w5.heap.size≠w.heap.size+2;omega) (.slice xa x.al.length xc)) (p:=⟨w5.heap.size,1,none⟩) (by have:=szbO.out;show w5.heap.size≠w.heap.size+2;omega) (.int .i64 x.next))
 replace bQ:=(Box.other (Box.other bQ (p:=⟨w5.heap.size,0,none⟩) (by have:=hQl.out;show w5.heap.size≠w2.heap.size;omega) (.slice xa x.al.length xc)) (p:=⟨w5.heap.size,1,none⟩) (by have:=hQl.out;show w5.heap.size≠w2.heap.size;omega) (.int .i64 x.next))
 replace bO:=(Box.setL (Box.setL bO 0 (.slice xa x.al.length xc)) 1 (.int .i64 x.next))
 simp only [List.set_cons_zero,List.set_cons_succ] at bO
 obtain ⟨w8s,hw8⟩ : ∃ z,(World.setCell (World.setCell w6b ⟨w5.heap.size,0,none⟩ (.slice xa x.al.length xc)) ⟨w5.heap.size,1,none⟩ (.int .i64 x.next))=z:=⟨_,rfl⟩
 rw [hw8] at hS8 bM bR bP bQ bO ⊢
 clear hw8
 have hF8:=ExtBut.ext hF7 hS8 (fun b h=>by have h0:=szbO.out;rcases h with h | h <;> omega)
 replace hXa:=Lib.hid (ExtBut.trans hXa.out hS8)
 replace hXc:=Lib.hid (ExtBut.trans hXc.out hS8)
 clear hS8
 have hOKo : Own w8s TN 58 2 (.slice ck m.stks.length ckc) m.stks.length (trows krow vs m.stks):=ExtBut.own hC.out.stk.outer hXc.out (fun g e h=>by have h1:=hC.out.stk.outer.lt e;have h2:=hTl.out;have h3:=hXcs.out;rcases h with h | h <;> omega)
 have hvB : ∀ g,(Value.slice ck m.stks.length ckc).ownBlock=some g→TN≤g∧g < w5.heap.size:=fun g e=>hC.out.stk.outer.lt e
 have hTW : TN≤w8s.heap.size:=by have h1:=hTs.out;have h2:=hXc.out.size;omega
 have hWs:=Lib.hid (hXc.out.size)
 have hA9:=Lib.hid (And.intro hOKo (And.intro hvB (And.intro hTW bO)))
 clear hOKo hvB hTW
 obtain ⟨bM_0,bM_1,bM_2,bM_3,bM_4,bM_5,bM_l⟩:=bM.c6
 have bO_0 : World.cell? w8s ⟨w5.heap.size,0,none⟩=some (.slice xa x.al.length xc):=bO.cell 0
 have bO_1 : World.cell? w8s ⟨w5.heap.size,1,none⟩=some (.int .i64 x.next):=bO.cell 1
 have bO_2 : World.cell? w8s ⟨w5.heap.size,2,none⟩=some (.slice ck m.stks.length ckc):=bO.cell 2
 have bO_3 : World.cell? w8s ⟨w5.heap.size,3,none⟩=some (.slice cr m.run.length crc):=bO.cell 3
 have bO_4 : World.cell? w8s ⟨w5.heap.size,4,none⟩=some (.int .i64 m.tag):=bO.cell 4
 have bO_5 : World.cell? w8s ⟨w5.heap.size,5,none⟩=some (.int .i64 m.call):=bO.cell 5
 have bO_f0 : World.frozen? w8s ⟨w5.heap.size,0,none⟩=false:=bO.frozen 0
 have bO_f1 : World.frozen? w8s ⟨w5.heap.size,1,none⟩=false:=bO.frozen 1
 have bO_f2 : World.frozen? w8s ⟨w5.heap.size,2,none⟩=false:=bO.frozen 2
 have bO_f3 : World.frozen? w8s ⟨w5.heap.size,3,none⟩=false:=bO.frozen 3
 have bO_f4 : World.frozen? w8s ⟨w5.heap.size,4,none⟩=false:=bO.frozen 4
 have bO_f5 : World.frozen? w8s ⟨w5.heap.size,5,none⟩=false:=bO.frozen 5
 have bO_l:=bO.lt
 go_region_law (first | (rw [if_pos (by rfl)];refine wp_append_any (.tmp 42) (.tmp 48) 25 25 rfl rfl rfl (B:=TN) (e:=58) (n:=m.stks.length) (m:=1) (xs:=trows krow vs m.stks) (ys:=krow (.slice an BS.length cn) ⟨n,BS⟩) Try.underlying25 Try.underlying25 hi.out hz.out hi3.out hz3.out ?_ ?_ ?_ ?_ ?_ ?_ ?_;(first | exact hA9.out.1.ext hB.out.1 | exact hA9.out.1.ext hB.out.1.drew);(first | exact (Own.lit' (B:=0) (e:=58) (k:=2) w4 #[.int .i64 n,.slice an BS.length cn] 1 (Nat.zero_le _) (by simp [maxLen]) rfl).sl | exact (Own.lit' (B:=0) (e:=58) (k:=2) w4 #[.int .i64 n,.slice an BS.length cn] 1 (Nat.zero_le _) (by simp [maxLen]) rfl).sl.ext (Ext.refl _).drew);(simp [krow,Value.oneCell']);(have:=hll.out;simp [maxLen];omega);(rw [hby.out];have:=hll.out;omega);(exact Nat.le_trans hA9.out.2.2.1 hB.out.1.size);intro v' w6 hOv hKv hbv _;(obtain ⟨av',cv',rfl,-⟩:=hOv.sl.slice_form);(have bO6 : Box w6 w5.heap.size 28 #[.slice xa x.al.length xc,.int .i64 x.next,.slice ck m.stks.length ckc,.slice cr m.run.length crc,.int .i64 m.tag,.int .i64 m.call]:=(hA9.out.2.2.2.ext hB.out.1).but (ExtBut.of_keeps hKv) (fun h=>by have h1:=hA9.out.2.1 _ h;omega));(have o6 : w6.cell? ⟨w5.heap.size,2,none⟩=some (.slice ck m.stks.length ckc):=bO6.cell 2);(have of6:=bO6.frozen 2);(have hC9:=Lib.hid (And.intro hOv (And.intro hKv (And.intro hbv bO6))));clear hOv hKv hbv bO6) | (go_simp;go_at_call 27;refine (ref33_Fresh n size m.tag _ hsb.out).mono ?_;rintro e w4 ⟨sn,vn,rfl,hOn,hE4⟩;(have hE4' : Ext w8s w4:=(by first | exact hE4 | exact ((Ext.refl w8s).drew).trans hE4));(have hOn2 : OwnS w4 w8s.heap.size sn vn (based size.toNat m.tag):=hOn);rw [hBS.out] at hOn2;(obtain ⟨an,cn,rfl,hcn,hcn2,-⟩:=(Own.sl hOn2.outer).slice_form);(have o4:=hE4'.cell bO_2);(have hBl4 : w5.heap.size < w4.heap.size:=Nat.lt_of_lt_of_le bO_l hE4'.size);(have hB:=Lib.hid (And.intro (hE4'.alloc (.cells #[.int .i64 n,.slice an BS.length cn] 58)) (And.intro hOn2 hE4')));clear hOn hOn2 hE4 hE4'))
 all_goals
  have hP:=OwnK.grown (BO:=w5.heap.size) (x:=⟨n,BS⟩) hC.out.stk ((hXc.out.mono (S':=fun b=>b < TN∨b=w5.heap.size) (fun b _ h=>by have h2:=hTl.out;have h3:=hXcs.out;rcases h with h | h;exact .inl (by omega);exact .inr h)).trans (ExtBut.of_ext hB.out.1)) hTs.out (Nat.le_refl _) (by have:=hB.out.1.size;omega) (((OwnS.fs hB.out.2.1).mono (S':=fun b=>w5.heap.size < b) (fun b h1 _=>by omega)).ext ((Ext.refl _).alloc (.cells #[.int .i64 n,.slice an BS.length cn] 58))) hC9.out.1 hC9.out.2.1 hC9.out.2.2.1
  have hSk : ExtBut (fun b=>(Value.slice ck m.stks.length ckc).ownBlock=some b) w8s w6:=(ExtBut.of_ext hB.out.1).trans (ExtBut.of_keeps hC9.out.2.1)
  have hl1:=hTl.out
  have hl2:=hTs.out
  have hl3:=hXcs.out
  have hl4:=hXa_hXc.out
  have hl5:=hXas.out
  have hl6:=hA9.out.2.1
  have hMem : Fq (fun b=>w.heap.size+3≤b∧b≠w5.heap.size) w6 (fun w=>Als w (.slice xa x.al.length xc) x.al):=(hx.out.to (S':=fun b=>w.heap.size+3≤b∧b < w2.heap.size) hXa.out (fun b h1 hl h2=>by rcases h2 with h2 | h2 <;> omega) (fun b h1 h2=>⟨by omega,h2⟩)).to hSk (fun b h1 _ h2=>by have h3:=hl6 b h2;omega) (fun b h1 _=>⟨h1.1,by omega⟩)
  have hRun : Fq (fun b=>w.heap.size+3≤b∧b≠w5.heap.size) w6 (fun w=>Nts w (.slice cr m.run.length crc) m.run):=(hC.out.runF.to (S':=fun b=>w.heap.size+3≤b∧b < TN) hXc.out (fun b h1 hl h2=>by have h4:=(hC.out.run.lt h1).1;rcases h2 with h2 | h2 <;> omega) (fun b h1 _=>⟨by have:=(hC.out.run.lt h1).1;omega,hC.out.loR b h1⟩)).to hSk (fun b h1 _ h2=>by have h3:=hl6 b h2;omega) (fun b h1 _=>⟨h1.1,by omega⟩)
  have hK6:=hP.mono (S':=fun b=>w.heap.size+3≤b∧b≠w5.heap.size) (fun b h1 _=>⟨by omega,h1.2⟩)
  have bO11:=hC9.out.2.2.2.set 2 (.slice av' (m.stks.length+1) cv')
  have hX11:=ExtBut.setCell w6 ⟨w5.heap.size,2,none⟩ (.slice av' (m.stks.length+1) cv')
  have bM11:=(Box.but bM hSk (fun h=>by have h1:=hl6 _ h;omega)).but hX11 (fun h=>by have h' : w.heap.size=w5.heap.size:=h;omega)
  have bR11:=(Box.but bR hSk (fun h=>by have h1:=hl6 _ h;omega)).but hX11 (fun h=>by have h' : w.heap.size+1=w5.heap.size:=h;omega)
  have bP11:=(Box.but bP hSk (fun h=>by have h1:=hl6 _ h;omega)).but hX11 (fun h=>by have h' : w.heap.size+2=w5.heap.size:=h;omega)
  have hF11:=ExtBut.ext (ExtBut.ext hF8 hSk (fun b h=>by have h1:=hl6 b h;omega)) hX11 (fun b h=>by have h' : b=w5.heap.size:=h;omega)
  have hMem2:=hMem.to (S':=fun b=>w.heap.size+3≤b∧b≠w5.heap.size) hX11 (fun b h1 _ h2=>h1.2 h2) (fun b h1 _=>h1)
  have hRun2:=hRun.to (S':=fun b=>w.heap.size+3≤b∧b≠w5.heap.size) hX11 (fun b h1 _ h2=>h1.2 h2) (fun b h1 _=>h1)
  have hK2:=hK6.to (S':=fun b=>w.heap.size+3≤b∧b≠w5.heap.size) hX11 (fun b h1 _ h2=>h1.2 h2) (fun b h1 _=>h1)
  replace hMem2:=Lib.hid hMem2;replace hRun2:=Lib.hid hRun2;replace hK2:=Lib.hid hK2
  replace bO11:=Lib.hid bO11;replace bM11:=Lib.hid bM11;replace bR11:=Lib.hid bR11;replace bP11:=Lib.hid bP11;replace hF11:=Lib.hid hF11
  clear hP hSk hMem hRun hK6 hX11 bM bR bP bO bQ hXa hXc hA9 hC9 hl6
  go_upto_region 12 with fail
  have bM:=bM11.out;have bR:=bR11.out;have bP:=bP11.out;have bO:=bO11.out;have hF12:=hF11.out
  clear bM11 bR11 bP11 bO11 hF11 o6 of6 hBl4
  simp only [List.setIfInBounds_toArray,List.set_cons_zero,List.set_cons_succ] at bO
  obtain ⟨w11,hw11⟩ : ∃ z,World.setCell w6 ⟨w5.heap.size,2,none⟩ (.slice av' (m.stks.length+1) cv')=z:=⟨_,rfl⟩
  rw [hw11] at bM bR bP bO hF12 hMem2 hRun2 hK2 ⊢
  clear hw11
  clear bM_0 bM_1 bM_2 bM_3 bM_4 bM_5 bM_l bO_0 bO_1 bO_2 bO_3 bO_4 bO_5 bO_f0 bO_f1 bO_f2 bO_f3 bO_f4 bO_f5 bO_l
  have hXz:=Lib.hid (ExtBut.refl (fun b=>(w.heap.size≤b∧b < w.heap.size+3)∨b=w5.heap.size) w11)
  obtain ⟨bM_0,bM_1,bM_2,bM_3,bM_4,bM_5,bM_l⟩:=bM.c6
  have bO_0 : World.cell? w11 ⟨w5.heap.size,0,none⟩=some (.slice xa x.al.length xc):=bO.cell 0
  have bO_1 : World.cell? w11 ⟨w5.heap.size,1,none⟩=some (.int .i64 x.next):=bO.cell 1
  have bO_2 : World.cell? w11 ⟨w5.heap.size,2,none⟩=some (.slice av' (m.stks.length+1) cv'):=bO.cell 2
  have bO_3 : World.cell? w11 ⟨w5.heap.size,3,none⟩=some (.slice cr m.run.length crc):=bO.cell 3
  have bO_4 : World.cell? w11 ⟨w5.heap.size,4,none⟩=some (.int .i64 m.tag):=bO.cell 4
  have bO_5 : World.cell? w11 ⟨w5.heap.size,5,none⟩=some (.int .i64 m.call):=bO.cell 5
  have bO_f0 : World.frozen? w11 ⟨w5.heap.size,0,none⟩=false:=bO.frozen 0
  have bO_f1 : World.frozen? w11 ⟨w5.heap.size,1,none⟩=false:=bO.frozen 1
  have bO_f2 : World.frozen? w11 ⟨w5.heap.size,2,none⟩=false:=bO.frozen 2
  have bO_f3 : World.frozen? w11 ⟨w5.heap.size,3,none⟩=false:=bO.frozen 3
  have bO_f4 : World.frozen? w11 ⟨w5.heap.size,4,none⟩=false:=bO.frozen 4
  have bO_f5 : World.frozen? w11 ⟨w5.heap.size,5,none⟩=false:=bO.frozen 5
  have bO_l:=bO.lt
  go_upto_region 13 with fail
  clear bM_0 bM_1 bM_2 bM_3 bM_4 bM_5 bM_l bO_0 bO_1 bO_2 bO_3 bO_4 bO_5 bO_f0 bO_f1 bO_f2 bO_f3 bO_f4 bO_f5 bO_l
  have hS9 : ExtBut (fun b=>(w.heap.size≤b∧b < w.heap.size+3)∨b=w5.heap.size) w11 (World.setCell w11 ⟨w5.heap.size,4,none⟩ (.int .i64 (m.tag+1))):=((ExtBut.setCell w11 ⟨w5.heap.size,4,none⟩ (.int .i64 (m.tag+1))).mono (S':=(fun b=>(w.heap.size≤b∧b < w.heap.size+3)∨b=w5.heap.size)) (fun b _ h=>by have h' : b=w5.heap.size:=h;omega))
  replace bM:=(Box.other bM (p:=⟨w5.heap.size,4,none⟩) (by have:=szbO.out;show w5.heap.size≠w.heap.size;omega) (.int .i64 (m.tag+1)))
  replace bR:=(Box.other bR (p:=⟨w5.heap.size,4,none⟩) (by have:=szbO.out;show w5.heap.size≠w.heap.size+1;omega) (.int .i64 (m.tag+1)))
  replace bP:=(Box.other bP (p:=⟨w5.heap.size,4,none⟩) (by have:=szbO.out;show w5.heap.size≠w.heap.size+2;omega) (.int .i64 (m.tag+1)))
  replace bO:=(Box.setL bO 4 (.int .i64 (m.tag+1)))
  simp only [List.set_cons_zero,List.set_cons_succ] at bO
  obtain ⟨w9s,hw9⟩ : ∃ z,(World.setCell w11 ⟨w5.heap.size,4,none⟩ (.int .i64 (m.tag+1)))=z:=⟨_,rfl⟩
  rw [hw9] at hS9 bM bR bP bO ⊢
  clear hw9
  have hF9:=ExtBut.ext hF12 hS9 (fun b h=>by have h0:=szbO.out;rcases h with h | h <;> omega)
  replace hXz:=Lib.hid (ExtBut.trans hXz.out hS9)
  clear hS9
  obtain ⟨bM_0,bM_1,bM_2,bM_3,bM_4,bM_5,bM_l⟩:=bM.c6
  have bR_0 : World.cell? w9s ⟨w.heap.size+1,0,none⟩=some (.slice none 0 0):=bR.cell 0
  have bR_1 : World.cell? w9s ⟨w.heap.size+1,1,none⟩=some (.int .i64 0):=bR.cell 1
  have bR_2 : World.cell? w9s ⟨w.heap.size+1,2,none⟩=some (.slice none 0 0):=bR.cell 2
  have bR_3 : World.cell? w9s ⟨w.heap.size+1,3,none⟩=some (.slice none 0 0):=bR.cell 3
  have bR_4 : World.cell? w9s ⟨w.heap.size+1,4,none⟩=some (.int .i64 0):=bR.cell 4
  have bR_5 : World.cell? w9s ⟨w.heap.size+1,5,none⟩=some (.int .i64 0):=bR.cell 5
  have bR_f0 : World.frozen? w9s ⟨w.heap.size+1,0,none⟩=false:=bR.frozen 0
  have bR_f1 : World.frozen? w9s ⟨w.heap.size+1,1,none⟩=false:=bR.frozen 1
  have bR_f2 : World.frozen? w9s ⟨w.heap.size+1,2,none⟩=false:=bR.frozen 2
  have bR_f3 : World.frozen? w9s ⟨w.heap.size+1,3,none⟩=false:=bR.frozen 3
  have bR_f4 : World.frozen? w9s ⟨w.heap.size+1,4,none⟩=false:=bR.frozen 4
  have bR_f5 : World.frozen? w9s ⟨w.heap.size+1,5,none⟩=false:=bR.frozen 5
  have bR_l:=bR.lt
  have bP_0 : World.cell? w9s ⟨w.heap.size+2,0,none⟩=some (.int .i64 0):=bP.cell 0
  have bP_1 : World.cell? w9s ⟨w.heap.size+2,1,none⟩=some (.int .i64 0):=bP.cell 1
  have bP_2 : World.cell? w9s ⟨w.heap.size+2,2,none⟩=some (.int .i64 0):=bP.cell 2
  have bP_f0 : World.frozen? w9s ⟨w.heap.size+2,0,none⟩=false:=bP.frozen 0
  have bP_f1 : World.frozen? w9s ⟨w.heap.size+2,1,none⟩=false:=bP.frozen 1
  have bP_f2 : World.frozen? w9s ⟨w.heap.size+2,2,none⟩=false:=bP.frozen 2
  have bP_l:=bP.lt
  obtain ⟨bO_0,bO_1,bO_2,bO_3,bO_4,bO_5,bO_l⟩:=bO.c6
  go_region
  go_wp2
  rw [hres.out]
  have hXe : ExtBut (fun b=>(w.heap.size≤b∧b < w.heap.size+3)∨b=w5.heap.size) w9s (World.drew (World.setCell (World.setCell (World.setCell (World.setCell (World.setCell (World.setCell (World.setCell (World.setCell (World.setCell w9s ⟨w.heap.size+1,0,none⟩ (.slice xa x.al.length xc)) ⟨w.heap.size+1,1,none⟩ (.int .i64 x.next)) ⟨w.heap.size+1,2,none⟩ (.slice av' (m.stks.length+1) cv')) ⟨w.heap.size+1,3,none⟩ (.slice cr m.run.length crc)) ⟨w.heap.size+1,4,none⟩ (.int .i64 (m.tag+1))) ⟨w.heap.size+1,5,none⟩ (.int .i64 m.call)) ⟨w.heap.size+2,0,none⟩ (.int .i64 n)) ⟨w.heap.size+2,1,none⟩ (.int .i64 0)) ⟨w.heap.size+2,2,none⟩ (.int .i64 m.tag))):=(ExtBut.trans (ExtBut.trans (ExtBut.trans (ExtBut.trans (ExtBut.trans (ExtBut.trans (ExtBut.trans (ExtBut.trans (ExtBut.trans ((ExtBut.setCell w9s ⟨w.heap.size+1,0,none⟩ (.slice xa x.al.length xc)).mono (S':=(fun b=>(w.heap.size≤b∧b < w.heap.size+3)∨b=w5.heap.size)) (fun b _ h=>by have h' : b=w.heap.size+1:=h;omega)) ((ExtBut.setCell (World.setCell w9s ⟨w.heap.size+1,0,none⟩ (.slice xa x.al.length xc)) ⟨w.heap.size+1,1,none⟩ (.int .i64 x.next)).mono (S':=(fun b=>(w.heap.size≤b∧b < w.heap.size+3)∨b=w5.heap.size)) (fun b _ h=>by have h' : b=w.heap.size+1:=h;omega))) ((ExtBut.setCell (World.setCell (World.setCell w9s ⟨w.heap.size+1,0,none⟩ (.slice xa x.al.length xc)) ⟨w.heap.size+1,1,none⟩ (.int .i64 x.next)) ⟨w.heap.size+1,2,none⟩ (.slice av' (m.stks.length+1) cv')).mono (S':=(fun b=>(w.heap.size≤b∧b < w.heap.size+3)∨b=w5.heap.size)) (fun b _ h=>by have h' : b=w.heap.size+1:=h;omega))) ((ExtBut.setCell (World.setCell (World.setCell (World.setCell w9s ⟨w.heap.size+1,0,none⟩ (.slice xa x.al.length xc)) ⟨w.heap.size+1,1,none⟩ (.int .i64 x.next)) ⟨w.heap.size+1,2,none⟩ (.slice av' (m.stks.length+1) cv')) ⟨w.heap.size+1,3,none⟩ (.slice cr m.run.length crc)).mono (S':=(fun b=>(w.heap.size≤b∧b < w.heap.size+3)∨b=w5.heap.size)) (fun b _ h=>by have h' : b=w.heap.size+1:=h;omega))) ((ExtBut.setCell (World.setCell (World.setCell (World.setCell (World.setCell w9s ⟨w.heap.size+1,0,none⟩ (.slice xa x.al.length xc)) ⟨w.heap.size+1,1,none⟩ (.int .i64 x.next)) ⟨w.heap.size+1,2,none⟩ (.slice av' (m.stks.length+1) cv')) ⟨w.heap.size+1,3,none⟩ (.slice cr m.run.length crc)) ⟨w.heap.size+1,4,none⟩ (.int .i64 (m.tag+1))).mono (S':=(fun b=>(w.heap.size≤b∧b < w.heap.size+3)∨b=w5.heap.size)) (fun b _ h=>by have h' : b=w.heap.size+1:=h;omega))) ((ExtBut.setCell (World.setCell (World.setCell (World.setCell (World.setCell (World.setCell w9s ⟨w.heap.size+1,0,none⟩ (.slice xa x.al.length xc)) ⟨w.heap.size+1,1,none⟩ (.int .i64 x.next)) ⟨w.heap.size+1,2,none⟩ (.slice av' (m.stks.length+1) cv')) ⟨w.heap.size+1,3,none⟩ (.slice cr m.run.length crc)) ⟨w.heap.size+1,4,none⟩ (.int .i64 (m.tag+1))) ⟨w.heap.size+1,5,none⟩ (.int .i64 m.call)).mono (S':=(fun b=>(w.heap.size≤b∧b < w.heap.size+3)∨b=w5.heap.size)) (fun b _ h=>by have h' : b=w.heap.size+1:=h;omega))) ((ExtBut.setCell (World.setCell (World.setCell (World.setCell (World.setCell (World.setCell (World.setCell w9s ⟨w.heap.size+1,0,none⟩ (.slice xa x.al.length xc)) ⟨w.heap.size+1,1,none⟩ (.int .i64 x.next)) ⟨w.heap.size+1,2,none⟩ (.slice av' (m.stks.length+1) cv')) ⟨w.heap.size+1,3,none⟩ (.slice cr m.run.length crc)) ⟨w.heap.size+1,4,none⟩ (.int .i64 (m.tag+1))) ⟨w.heap.size+1,5,none⟩ (.int .i64 m.call)) ⟨w.heap.size+2,0,none⟩ (.int .i64 n)).mono (S':=(fun b=>(w.heap.size≤b∧b < w.heap.size+3)∨b=w5.heap.size)) (fun b _ h=>by have h' : b=w.heap.size+2:=h;omega))) ((ExtBut.setCell (World.setCell (World.setCell (World.setCell (World.setCell (World.setCell (World.setCell (World.setCell w9s ⟨w.heap.size+1,0,none⟩ (.slice xa x.al.length xc)) ⟨w.heap.size+1,1,none⟩ (.int .i64 x.next)) ⟨w.heap.size+1,2,none⟩ (.slice av' (m.stks.length+1) cv')) ⟨w.heap.size+1,3,none⟩ (.slice cr m.run.length crc)) ⟨w.heap.size+1,4,none⟩ (.int .i64 (m.tag+1))) ⟨w.heap.size+1,5,none⟩ (.int .i64 m.call)) ⟨w.heap.size+2,0,none⟩ (.int .i64 n)) ⟨w.heap.size+2,1,none⟩ (.int .i64 0)).mono (S':=(fun b=>(w.heap.size≤b∧b < w.heap.size+3)∨b=w5.heap.size)) (fun b _ h=>by have h' : b=w.heap.size+2:=h;omega))) ((ExtBut.setCell (World.setCell (World.setCell (World.setCell (World.setCell (World.setCell (World.setCell (World.setCell (World.setCell w9s ⟨w.heap.size+1,0,none⟩ (.slice xa x.al.length xc)) ⟨w.heap.size+1,1,none⟩ (.int .i64 x.next)) ⟨w.heap.size+1,2,none⟩ (.slice av' (m.stks.length+1) cv')) ⟨w.heap.size+1,3,none⟩ (.slice cr m.run.length crc)) ⟨w.heap.size+1,4,none⟩ (.int .i64 (m.tag+1))) ⟨w.heap.size+1,5,none⟩ (.int .i64 m.call)) ⟨w.heap.size+2,0,none⟩ (.int .i64 n)) ⟨w.heap.size+2,1,none⟩ (.int .i64 0)) ⟨w.heap.size+2,2,none⟩ (.int .i64 m.tag)).mono (S':=(fun b=>(w.heap.size≤b∧b < w.heap.size+3)∨b=w5.heap.size)) (fun b _ h=>by have h' : b=w.heap.size+2:=h;omega))) (ExtBut.of_ext (Ext.refl _).drew))
  refine bodyPost_ret (v := .tuple #[.agg #[.slice xa x.al.length xc,.int .i64 x.next,.slice av' (m.stks.length+1) cv',.slice cr m.run.length crc,.int .i64 (m.tag+1),.int .i64 m.call],.agg #[.int .i64 n,.int .i64 0,.int .i64 m.tag],.int .i64 0]) (by simp [results,Try.f7,go_sem,bR_0,bR_1,bR_2,bR_3,bR_4,bR_5,bP_0,bP_1,bP_2]) rfl ?_
  have hFe:=ExtBut.ext hF9 hXe (fun b h=>by have h0:=szbO.out;rcases h with h | h <;> omega)
  have hXze:=ExtBut.trans hXz.out hXe
  have hl7:=szbO.out
  refine ⟨_,rfl,FrMon.of_fs (m:=⟨x,m.stks ++ [⟨n,BS⟩],m.run,m.tag+1,m.call⟩) (hMem2.out.to (S':=fun b=>w.heap.size≤b) hXze (fun b h1 _ h2=>by rcases h2 with h2 | h2 <;> omega) (fun b h1 _=>by omega)) ?_ (hRun2.out.to (S':=fun b=>w.heap.size≤b) hXze (fun b h1 _ h2=>by rcases h2 with h2 | h2 <;> omega) (fun b h1 _=>by omega)),hFe⟩
  have hkk:=hK2.out
  exact hkk.to (S':=fun b=>w.heap.size≤b) hXze (fun b h1 _ h2=>by rcases h2 with h2 | h2 <;> omega) (fun b h1 _=>by omega)
end Go.Proofs.Ytnplphcnagooeaa
