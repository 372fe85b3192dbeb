/- Several texts in one: RfG. -/
import Derived.Test.YtnplphcnagooeaaQ17
import Derived.Test.YtnplphcnagooeaaQ12
/- Contracts: the reference's End of layer 35. (printed by gen/ref35g.py) -/
namespace Go.Proofs.Ytnplphcnagooeaa
set_option maxRecDepth 100000
open Go.RowKit
theorem endM_at_none {m : Mon} {n : Int} (h : okMon m=true) (hat : atNum m.mem.al n=none) : endM m n=(Mon.zero,0,6):=by
 unfold endM
 rw [if_pos h,hat]
theorem endM_dead {m : Mon} {n : Int} {i : Nat} {al : Alloc} (h : okMon m=true) (hat : atNum m.mem.al n=some i) (hal : m.mem.al[i]? = some al) (hlv : al.live=false) : endM m n=(Mon.zero,0,6):=by
 have hg : m.mem.al.getD i Alloc.zero=al:=by rw [List.getD_eq_getElem?_getD,hal];rfl
 unfold endM
 rw [if_pos h,hat]
 dsimp only
 rw [hg,hlv]
 rfl
def zrowsA (n : Nat) : Array Value:=(List.replicate n (.slice none 0 0)).toArray
theorem zrows_made (n : Nat) : madeCells #[.slice none 0 0] (n * 1)=zrowsA n:=by
 apply Array.toList_inj.1
 apply List.ext_getElem?
 intro j
 by_cases hj : j < n
 ·simp [madeCells,zrowsA,hj,Nat.mod_one]
 ·rw [List.getElem?_eq_none (by rw [Array.length_toList,size_madeCells];omega),List.getElem?_eq_none (by simp [zrowsA];omega)]
theorem make_Rows (n : Nat) (hn : n≤1000000) (W : World) : (Instr.makeSlice 56 (.int .i64 (n : Int)) (.int .i64 (n : Int))).run Try.prog W = .ok (.slice (some ⟨W.heap.size,0,none⟩) n n) (W.alloc (.cells (zrowsA n) 60)):=by
 have h : (Try.prog.info? 60).map (fun i=>(i.zero.map (fun z=>z.cells),i.size,i.bytes))=some (some #[.slice none 0 0],1,24):=by kernel_rfl
 cases hi : Try.prog.info? 60 with
 | none=>rw [hi] at h;simp at h
 | some i =>
  rw [hi] at h
  simp only [Option.map_some,Option.some.injEq,Prod.mk.injEq] at h
  obtain ⟨h1,h2,h3⟩:=h
  cases hz : i.zero with
  | none=>rw [hz] at h1;simp at h1
  | some z =>
   rw [hz] at h1
   have hz' : z.cells=#[.slice none 0 0]:=by simpa using h1
   have:=run_make W 56 60 i z Try.underlying56 hi hz .i64 .i64 n n (by omega) (Int.le_refl _) (by rw [h3];omega) (by omega)
   rw [this,hz',h2,Int.toNat_natCast,zrows_made]
theorem zrows_own (n : Nat) (hn : n≤1000000) (W : World) {B : Nat} (hB : B≤W.heap.size) : Own (W.alloc (.cells (zrowsA n) 60)) B 60 1 (.slice (some ⟨W.heap.size,0,none⟩) n n) n (List.replicate n (.slice none 0 0)) :=
 Own.lit' (B:=B) (e:=60) (k:=1) W (zrowsA n) n hB (by simp [maxLen];omega) (by simp [zrowsA])
theorem Sts.zeros {w : World} {s : Value} {n : Nat} (h : Sl w 1 s n (List.replicate n (.slice none 0 0))) : Sts w s (List.replicate n []):=by
 refine ⟨List.replicate n (.slice none 0 0),All2.iff.2 ⟨by simp,fun k a b ha hb => ?_⟩,?_⟩
 ·have h1:=List.eq_of_mem_replicate (List.mem_of_getElem? ha)
  have h2:=List.eq_of_mem_replicate (List.mem_of_getElem? hb)
  subst h1 h2
  exact Its.nil w
 ·rw [trows_srow' (by simp)]
  simpa using h
theorem OwnK.setF {wT w' : World} {N BO g cap : Nat} {s' : Value} {vs : List Value} {l : List Stk} {i : Nat} {x y : Stk} (h : OwnK wT N (.slice (some ⟨g,0,none⟩) l.length cap) vs l) (hx : l[i]? = some x) (hn : y.num=x.num) (hX : ExtBut (fun b=>b < N∨b=BO∨b=g) wT w') (hBO : wT.heap.size≤BO)
  (hO : Own w' N 58 2 (.slice (some ⟨g,0,none⟩) l.length cap) l.length ((trows krow vs l).set (i * 2+1) s')) (hR : Fq (fun b=>BO < b) w' (fun w=>Sts w s' y.cells)) :
  Fq (fun b=>N≤b∧b≠BO) w' (fun w=>Kts w (.slice (some ⟨g,0,none⟩) l.length cap) (l.set i y)):=by
 have hi:=(List.getElem?_eq_some_iff.1 hx).1
 have hlt:=h.outer.lt (g:=g) rfl
 obtain ⟨s,hs⟩ : ∃ s,vs[i]? = some s:=⟨vs[i]'(by rw [h.len];exact hi),by simp⟩
 rw [trows_set krow krow_len (s':=s') (a':=y) hs hx (by omega) (by simp [krow,hn])] at hO
 intro w'' hw
 refine ⟨vs.set i s',All2.iff.2 ⟨by simp [h.len],fun j u z hu hz => ?_⟩,?_⟩
 ·by_cases e : j=i
  ·subst e
   rw [List.getElem?_set_self (by rw [h.len];exact hi)] at hu
   rw [List.getElem?_set_self hi] at hz
   cases hu;cases hz
   exact hR w'' fun b h1 hl=>hw b ⟨by omega,by omega⟩ hl
  ·rw [List.getElem?_set_ne (fun e'=>e e'.symm)] at hu hz
   exact ((h.inner j u z hu hz).to (S':=fun b=>N≤b∧b≠BO) hX (fun b h1 hl h2=>by rcases h2 with h2 | h2 | h2;omega;omega;exact h1.2 (by rw [h2];rfl)) (fun b h1 hl=>⟨h1.1,by omega⟩)) w'' hw
 ·rw [List.length_set]
  exact hO.fs w'' fun b e hl=>hw b ⟨(hO.lt e).1,by have e' : some g=some b:=e;cases e';omega⟩ hl
set_option maxRecDepth 100000 in
set_option maxHeartbeats 12800000 in
theorem ref35_End {m : Mon} {sa ss sr : Value} {wS : World} (n : Int) (hA : Als wS sa m.mem.al) (hn : i64B m.mem.next) (hK : Kts wS ss m.stks) (hR : Nts wS sr m.run) :
  Calls Try.prog 16 #[.agg #[sa,.int .i64 m.mem.next,ss,sr,.int .i64 m.tag,.int .i64 m.call],.int .i64 n] wS (RetF wS (fun v => .tuple #[v,.int .u8 (endM m n).2.1,.int .i64 (endM m n).2.2]) (endM m n).1):=by
 obtain ⟨aa,ac,rfl,hac,hacm,-⟩:=hA.form
 obtain ⟨ka,kc,rfl,hkc,hkcm,-⟩:=hK.form
 obtain ⟨ra,rc,rfl,hrc,hrcm,-⟩:=hR.form
 unfold maxLen at hacm hkcm hrcm
 have hE0 : Ext wS (World.alloc (World.alloc wS (.cells #[.slice aa m.mem.al.length ac,.int .i64 m.mem.next,.slice ka m.stks.length kc,.slice ra m.run.length rc,.int .i64 m.tag,.int .i64 m.call] 28)) (.cells #[.slice none 0 0,.int .i64 0,.slice none 0 0,.slice none 0 0,.int .i64 0,.int .i64 0] 28)):=by repeat (first | exact Ext.refl _ | refine Ext.alloc ?_ _)
 have bM : Box (World.alloc (World.alloc wS (.cells #[.slice aa m.mem.al.length ac,.int .i64 m.mem.next,.slice ka m.stks.length kc,.slice ra m.run.length rc,.int .i64 m.tag,.int .i64 m.call] 28)) (.cells #[.slice none 0 0,.int .i64 0,.slice none 0 0,.slice none 0 0,.int .i64 0,.int .i64 0] 28)) (wS.heap.size) 28 #[.slice aa m.mem.al.length ac,.int .i64 m.mem.next,.slice ka m.stks.length kc,.slice ra m.run.length rc,.int .i64 m.tag,.int .i64 m.call]:=(by
  have h:=Box.new wS 28 #[.slice aa m.mem.al.length ac,.int .i64 m.mem.next,.slice ka m.stks.length kc,.slice ra m.run.length rc,.int .i64 m.tag,.int .i64 m.call]
  replace h:=Box.ext h ((Ext.refl _).alloc (.cells #[.slice none 0 0,.int .i64 0,.slice none 0 0,.slice none 0 0,.int .i64 0,.int .i64 0] 28))
  exact h)
 have bR : Box (World.alloc (World.alloc wS (.cells #[.slice aa m.mem.al.length ac,.int .i64 m.mem.next,.slice ka m.stks.length kc,.slice ra m.run.length rc,.int .i64 m.tag,.int .i64 m.call] 28)) (.cells #[.slice none 0 0,.int .i64 0,.slice none 0 0,.slice none 0 0,.int .i64 0,.int .i64 0] 28)) (wS.heap.size+1) 28 #[.slice none 0 0,.int .i64 0,.slice none 0 0,.slice none 0 0,.int .i64 0,.int .i64 0]:=(by
  have h:=Box.new (World.alloc wS (.cells #[.slice aa m.mem.al.length ac,.int .i64 m.mem.next,.slice ka m.stks.length kc,.slice ra m.run.length rc,.int .i64 m.tag,.int .i64 m.call] 28)) 28 #[.slice none 0 0,.int .i64 0,.slice none 0 0,.slice none 0 0,.int .i64 0,.int .i64 0]
  simp only [World.size_alloc] at h
  exact h)
 obtain ⟨w0,hw0⟩ : ∃ z,(World.alloc (World.alloc wS (.cells #[.slice aa m.mem.al.length ac,.int .i64 m.mem.next,.slice ka m.stks.length kc,.slice ra m.run.length rc,.int .i64 m.tag,.int .i64 m.call] 28)) (.cells #[.slice none 0 0,.int .i64 0,.slice none 0 0,.slice none 0 0,.int .i64 0,.int .i64 0] 28))=z:=⟨_,rfl⟩
 rw [hw0] at hE0 bM bR
 have hs0 : w0.heap.size=wS.heap.size+2:=by rw [← hw0];simp
 replace hs0:=Lib.hid hs0
 replace hA:=Lib.hid hA
 replace hK:=Lib.hid hK
 replace hR:=Lib.hid hR
 replace hn:=Lib.hid hn
 cases hok : okMon m
 ·skip
  have hce:=Lib.hid (monErr_not hok)
  have hres:=Lib.hid (endM_bad (n:=n) hok)
  clear hok
  go_enter Try.func16,Try.ntmps16
  obtain ⟨bM_0,bM_1,bM_2,bM_3,bM_4,bM_5,bM_l⟩:=bM.c6
  go_wp2_with fail
  clear bM_0 bM_1 bM_2 bM_3 bM_4 bM_5 bM_l
  refine (ref35_Check (hA.out.ext hE0) hn.out (hK.out.ext hE0) (hR.out.ext hE0)).mono ?_
  rintro e w1 ⟨rfl,hE1⟩
  replace bM:=bM.ext hE1
  replace bR:=bR.ext hE1
  have hF1:=Ext.trans hE0 hE1
  rw [hce.out]
  clear hw0
  obtain ⟨bM_0,bM_1,bM_2,bM_3,bM_4,bM_5,bM_l⟩:=bM.c6
  have bR_0 : World.cell? w1 ⟨wS.heap.size+1,0,none⟩=some (.slice none 0 0):=bR.cell 0
  have bR_1 : World.cell? w1 ⟨wS.heap.size+1,1,none⟩=some (.int .i64 0):=bR.cell 1
  have bR_2 : World.cell? w1 ⟨wS.heap.size+1,2,none⟩=some (.slice none 0 0):=bR.cell 2
  have bR_3 : World.cell? w1 ⟨wS.heap.size+1,3,none⟩=some (.slice none 0 0):=bR.cell 3
  have bR_4 : World.cell? w1 ⟨wS.heap.size+1,4,none⟩=some (.int .i64 0):=bR.cell 4
  have bR_5 : World.cell? w1 ⟨wS.heap.size+1,5,none⟩=some (.int .i64 0):=bR.cell 5
  have bR_f0 : World.frozen? w1 ⟨wS.heap.size+1,0,none⟩=false:=bR.frozen 0
  have bR_f1 : World.frozen? w1 ⟨wS.heap.size+1,1,none⟩=false:=bR.frozen 1
  have bR_f2 : World.frozen? w1 ⟨wS.heap.size+1,2,none⟩=false:=bR.frozen 2
  have bR_f3 : World.frozen? w1 ⟨wS.heap.size+1,3,none⟩=false:=bR.frozen 3
  have bR_f4 : World.frozen? w1 ⟨wS.heap.size+1,4,none⟩=false:=bR.frozen 4
  have bR_f5 : World.frozen? w1 ⟨wS.heap.size+1,5,none⟩=false:=bR.frozen 5
  have bR_l:=bR.lt
  go_wp2
  rw [hres.out]
  have hXe : ExtBut (fun b=>wS.heap.size≤b∧b < wS.heap.size+2) w1 (World.setCell (World.setCell (World.setCell (World.setCell (World.setCell (World.setCell w1 ⟨wS.heap.size+1,0,none⟩ (.slice none 0 0)) ⟨wS.heap.size+1,1,none⟩ (.int .i64 0)) ⟨wS.heap.size+1,2,none⟩ (.slice none 0 0)) ⟨wS.heap.size+1,3,none⟩ (.slice none 0 0)) ⟨wS.heap.size+1,4,none⟩ (.int .i64 0)) ⟨wS.heap.size+1,5,none⟩ (.int .i64 0)):=by (repeat' with_reducible first | exact ExtBut.refl _ _ | refine ExtBut.dr ?_ | refine ExtBut.sc ?_ ?_ | fail) <;> dsimp only <;> omega
  refine bodyPost_ret (v := .tuple #[.agg #[.slice none 0 0,.int .i64 0,.slice none 0 0,.slice none 0 0,.int .i64 0,.int .i64 0],.int .u8 0,.int .i64 8]) (by simp [results,Try.f16,go_sem,bR_0,bR_1,bR_2,bR_3,bR_4,bR_5]) rfl ?_
  have hFe:=ExtBut.ext hF1 hXe (fun b h=>h.1)
  exact ⟨_,rfl,FrMon.zero _ _,hFe⟩
 have hMok:=MonOk.of hok
 have hce:=Lib.hid (monErr_of hok)
 have hcl:=Lib.hid hMok.small
 cases hat : atNum m.mem.al n with
 | none =>
  have hres:=Lib.hid (endM_at_none hok hat)
  have hix:=Lib.hid (idxM_none hat)
  clear hok hMok hat
  go_enter Try.func16,Try.ntmps16
  obtain ⟨bM_0,bM_1,bM_2,bM_3,bM_4,bM_5,bM_l⟩:=bM.c6
  go_wp2_with fail
  clear bM_0 bM_1 bM_2 bM_3 bM_4 bM_5 bM_l
  refine (ref35_Check (hA.out.ext hE0) hn.out (hK.out.ext hE0) (hR.out.ext hE0)).mono ?_
  rintro e w1 ⟨rfl,hE1⟩
  replace bM:=bM.ext hE1
  replace bR:=bR.ext hE1
  have hF1:=Ext.trans hE0 hE1
  rw [hce.out]
  clear hw0
  obtain ⟨bM_0,bM_1,bM_2,bM_3,bM_4,bM_5,bM_l⟩:=bM.c6
  go_wp2_with fail
  clear bM_0 bM_1 bM_2 bM_3 bM_4 bM_5 bM_l
  refine (ref26_At n (hA.out.ext hF1)).mono ?_
  rintro e w2 ⟨rfl,hE2⟩
  replace bM:=bM.ext hE2
  replace bR:=bR.ext hE2
  have hF2:=Ext.trans hF1 hE2
  rw [hix.out]
  obtain ⟨bM_0,bM_1,bM_2,bM_3,bM_4,bM_5,bM_l⟩:=bM.c6
  have bR_0 : World.cell? w2 ⟨wS.heap.size+1,0,none⟩=some (.slice none 0 0):=bR.cell 0
  have bR_1 : World.cell? w2 ⟨wS.heap.size+1,1,none⟩=some (.int .i64 0):=bR.cell 1
  have bR_2 : World.cell? w2 ⟨wS.heap.size+1,2,none⟩=some (.slice none 0 0):=bR.cell 2
  have bR_3 : World.cell? w2 ⟨wS.heap.size+1,3,none⟩=some (.slice none 0 0):=bR.cell 3
  have bR_4 : World.cell? w2 ⟨wS.heap.size+1,4,none⟩=some (.int .i64 0):=bR.cell 4
  have bR_5 : World.cell? w2 ⟨wS.heap.size+1,5,none⟩=some (.int .i64 0):=bR.cell 5
  have bR_f0 : World.frozen? w2 ⟨wS.heap.size+1,0,none⟩=false:=bR.frozen 0
  have bR_f1 : World.frozen? w2 ⟨wS.heap.size+1,1,none⟩=false:=bR.frozen 1
  have bR_f2 : World.frozen? w2 ⟨wS.heap.size+1,2,none⟩=false:=bR.frozen 2
  have bR_f3 : World.frozen? w2 ⟨wS.heap.size+1,3,none⟩=false:=bR.frozen 3
  have bR_f4 : World.frozen? w2 ⟨wS.heap.size+1,4,none⟩=false:=bR.frozen 4
  have bR_f5 : World.frozen? w2 ⟨wS.heap.size+1,5,none⟩=false:=bR.frozen 5
  have bR_l:=bR.lt
  go_wp2
  rw [hres.out]
  have hXe : ExtBut (fun b=>wS.heap.size≤b∧b < wS.heap.size+2) w2 (World.setCell (World.setCell (World.setCell (World.setCell (World.setCell (World.setCell w2 ⟨wS.heap.size+1,0,none⟩ (.slice none 0 0)) ⟨wS.heap.size+1,1,none⟩ (.int .i64 0)) ⟨wS.heap.size+1,2,none⟩ (.slice none 0 0)) ⟨wS.heap.size+1,3,none⟩ (.slice none 0 0)) ⟨wS.heap.size+1,4,none⟩ (.int .i64 0)) ⟨wS.heap.size+1,5,none⟩ (.int .i64 0)):=by (repeat' with_reducible first | exact ExtBut.refl _ _ | refine ExtBut.dr ?_ | refine ExtBut.sc ?_ ?_ | fail) <;> dsimp only <;> omega
  refine bodyPost_ret (v := .tuple #[.agg #[.slice none 0 0,.int .i64 0,.slice none 0 0,.slice none 0 0,.int .i64 0,.int .i64 0],.int .u8 0,.int .i64 6]) (by simp [results,Try.f16,go_sem,bR_0,bR_1,bR_2,bR_3,bR_4,bR_5]) rfl ?_
  have hFe:=ExtBut.ext hF2 hXe (fun b h=>h.1)
  exact ⟨_,rfl,FrMon.zero _ _,hFe⟩
 | some i =>
  have hix:=Lib.hid (idxM_some hat)
  have hil:=(atNum_lt hat).1
  obtain ⟨al,hal⟩ : ∃ a,m.mem.al[i]? = some a:=⟨m.mem.al[i],by simp⟩
  have hi0 : (0 : Int)≤(i : Int):=by omega
  have hi1 : (i : Int) < (m.mem.al.length : Int):=by omega
  have hneg : decide ((i : Int) < 0)=false:=decide_eq_false (by omega)
  obtain ⟨b,off,cs,rfl,hbb,a0,a1,a2,hcl2⟩:=hA.out.cell hal
  obtain ⟨cca,ccc,rfl,-⟩:=Cls.form hcl2
  obtain ⟨anum,alive,acells⟩:=al
  dsimp only at a0 a1 a2
  clear hcl2 hbb
  cases alive
  ·skip
   have hres:=Lib.hid (endM_dead hok hat hal rfl)
   clear hok hMok hat hal
   go_enter Try.func16,Try.ntmps16
   obtain ⟨bM_0,bM_1,bM_2,bM_3,bM_4,bM_5,bM_l⟩:=bM.c6
   go_wp2_with fail
   clear bM_0 bM_1 bM_2 bM_3 bM_4 bM_5 bM_l
   refine (ref35_Check (hA.out.ext hE0) hn.out (hK.out.ext hE0) (hR.out.ext hE0)).mono ?_
   rintro e w1 ⟨rfl,hE1⟩
   replace bM:=bM.ext hE1
   replace bR:=bR.ext hE1
   have hF1:=Ext.trans hE0 hE1
   rw [hce.out]
   clear hw0
   obtain ⟨bM_0,bM_1,bM_2,bM_3,bM_4,bM_5,bM_l⟩:=bM.c6
   go_wp2_with fail
   clear bM_0 bM_1 bM_2 bM_3 bM_4 bM_5 bM_l
   refine (ref26_At n (hA.out.ext hF1)).mono ?_
   rintro e w2 ⟨rfl,hE2⟩
   replace bM:=bM.ext hE2
   replace bR:=bR.ext hE2
   have hF2:=Ext.trans hF1 hE2
   rw [hix.out]
   have a1w:=Ext.cell hF2 a1
   obtain ⟨bM_0,bM_1,bM_2,bM_3,bM_4,bM_5,bM_l⟩:=bM.c6
   have bR_0 : World.cell? w2 ⟨wS.heap.size+1,0,none⟩=some (.slice none 0 0):=bR.cell 0
   have bR_1 : World.cell? w2 ⟨wS.heap.size+1,1,none⟩=some (.int .i64 0):=bR.cell 1
   have bR_2 : World.cell? w2 ⟨wS.heap.size+1,2,none⟩=some (.slice none 0 0):=bR.cell 2
   have bR_3 : World.cell? w2 ⟨wS.heap.size+1,3,none⟩=some (.slice none 0 0):=bR.cell 3
   have bR_4 : World.cell? w2 ⟨wS.heap.size+1,4,none⟩=some (.int .i64 0):=bR.cell 4
   have bR_5 : World.cell? w2 ⟨wS.heap.size+1,5,none⟩=some (.int .i64 0):=bR.cell 5
   have bR_f0 : World.frozen? w2 ⟨wS.heap.size+1,0,none⟩=false:=bR.frozen 0
   have bR_f1 : World.frozen? w2 ⟨wS.heap.size+1,1,none⟩=false:=bR.frozen 1
   have bR_f2 : World.frozen? w2 ⟨wS.heap.size+1,2,none⟩=false:=bR.frozen 2
   have bR_f3 : World.frozen? w2 ⟨wS.heap.size+1,3,none⟩=false:=bR.frozen 3
   have bR_f4 : World.frozen? w2 ⟨wS.heap.size+1,4,none⟩=false:=bR.frozen 4
   have bR_f5 : World.frozen? w2 ⟨wS.heap.size+1,5,none⟩=false:=bR.frozen 5
   have bR_l:=bR.lt
   go_wp2
   rw [hres.out]
   have hXe : ExtBut (fun b=>wS.heap.size≤b∧b < wS.heap.size+2) w2 (World.setCell (World.setCell (World.setCell (World.setCell (World.setCell (World.setCell w2 ⟨wS.heap.size+1,0,none⟩ (.slice none 0 0)) ⟨wS.heap.size+1,1,none⟩ (.int .i64 0)) ⟨wS.heap.size+1,2,none⟩ (.slice none 0 0)) ⟨wS.heap.size+1,3,none⟩ (.slice none 0 0)) ⟨wS.heap.size+1,4,none⟩ (.int .i64 0)) ⟨wS.heap.size+1,5,none⟩ (.int .i64 0)):=by (repeat' with_reducible first | exact ExtBut.refl _ _ | refine ExtBut.dr ?_ | refine ExtBut.sc ?_ ?_ | fail) <;> dsimp only <;> omega
   refine bodyPost_ret (v := .tuple #[.agg #[.slice none 0 0,.int .i64 0,.slice none 0 0,.slice none 0 0,.int .i64 0,.int .i64 0],.int .u8 0,.int .i64 6]) (by simp [results,Try.f16,go_sem,bR_0,bR_1,bR_2,bR_3,bR_4,bR_5]) rfl ?_
   have hFe:=ExtBut.ext hF2 hXe (fun b h=>h.1)
   exact ⟨_,rfl,FrMon.zero _ _,hFe⟩
  obtain ⟨st,al',hst,hal',hrow⟩:=hMok.stk hil
  obtain ⟨⟨why,e4⟩,hd⟩ : ∃ z,endR34 ⟨st.num,st.cells⟩ m.run=z:=⟨_,rfl⟩
  have hd' : endR34 st m.run=(why,e4):=hd
  have hres:=endM_live hok hat hal rfl hst hd'
  have hend : endAt m.mem.al i=m.mem.al.set i (ended ⟨anum,true,acells⟩):=by rw [endAt,hal]
  have hi2 : i < m.stks.length:=(List.getElem?_eq_some_iff.1 hst).1
  have hi3 : (i : Int) < (m.stks.length : Int):=by omega
  have hcs:=okK_bounds (rowM_parts hrow).2.2.1
  have hcl1 : Hid (1≤st.cells.length∧st.cells.length≤2):=Hid.mk (by have h:=(rowM_parts hrow).2.2.1;unfold okK at h;simp only [Bool.and_eq_true,decide_eq_true_eq] at h;omega)
  obtain ⟨kb,ko,ks,rfl,hkb,k0,k1,hks⟩:=hK.out.cell hst
  have hv:=hks.form
  obtain ⟨sa',sc',rfl,-⟩:=hv
  have hsth:=Lib.hid hst;have hdh:=Lib.hid hd;have halh:=Lib.hid hal;have hendh:=Lib.hid hend
  replace hks:=Lib.hid hks
  clear hat hal hst hal' hrow hd hd' hcs hkb hend
  by_cases hw : why=0
  rotate_left
  ·skip
   have q2 : (why != 0)=true:=by simpa using hw
   rw [if_neg hw] at hres
   replace hres:=Lib.hid hres
   clear hw hok hMok
   go_enter Try.func16,Try.ntmps16
   obtain ⟨bM_0,bM_1,bM_2,bM_3,bM_4,bM_5,bM_l⟩:=bM.c6
   go_wp2_with fail
   clear bM_0 bM_1 bM_2 bM_3 bM_4 bM_5 bM_l
   refine (ref35_Check (hA.out.ext hE0) hn.out (hK.out.ext hE0) (hR.out.ext hE0)).mono ?_
   rintro e w1 ⟨rfl,hE1⟩
   replace bM:=bM.ext hE1
   replace bR:=bR.ext hE1
   have hF1:=Ext.trans hE0 hE1
   rw [hce.out]
   clear hw0
   obtain ⟨bM_0,bM_1,bM_2,bM_3,bM_4,bM_5,bM_l⟩:=bM.c6
   go_wp2_with fail
   clear bM_0 bM_1 bM_2 bM_3 bM_4 bM_5 bM_l
   refine (ref26_At n (hA.out.ext hF1)).mono ?_
   rintro e w2 ⟨rfl,hE2⟩
   replace bM:=bM.ext hE2
   replace bR:=bR.ext hE2
   have hF2:=Ext.trans hF1 hE2
   rw [hix.out]
   have a1w:=Ext.cell hF2 a1
   obtain ⟨bM_0,bM_1,bM_2,bM_3,bM_4,bM_5,bM_l⟩:=bM.c6
   go_upto_region 7 with fail
   clear bM_0 bM_1 bM_2 bM_3 bM_4 bM_5 bM_l
   clear a1w
   have m2 : World.cell? w2 ⟨wS.heap.size,2,none⟩=some (.slice (some ⟨kb,ko,none⟩) m.stks.length kc):=bM.cell 2
   have m3 : World.cell? w2 ⟨wS.heap.size,3,none⟩=some (.slice ra m.run.length rc):=bM.cell 3
   have r0:=Ext.cell hF2 k0
   have r1:=Ext.cell hF2 k1
   have hKc:=Lib.hid (hks.out.ext hF2)
   have hRc:=Lib.hid (hR.out.ext hF2)
   refine wp_region_go (L:=[Pr.eq (.pointer (some ⟨wS.heap.size,2,none⟩)),Pr.eq (.slice (some ⟨kb,ko,none⟩) m.stks.length kc),Pr.eq (.int .i64 (i : Int)),Pr.eq (.pointer (some ⟨kb,ko+i * 2,none⟩)),Pr.eq (.agg #[.int .i64 st.num,.slice sa' st.cells.length sc']),Pr.eq (.pointer (some ⟨wS.heap.size,3,none⟩)),Pr.eq (.slice ra m.run.length rc),Pr.eq (.tuple #[.int .u8 why,.int .i64 e4]),Pr.eq (.tuple #[.int .u8 why,.int .i64 e4]),Pr.eq (.int .u8 why),Pr.eq (.int .i64 e4),Pr.eq (.int .u8 why),Pr.eq (.int .i64 e4)]) (by kernel_rfl) (by kernel_rfl) ?_ ?_
   ·refine ⟨?_,?_,?_,?_,?_,?_,?_,?_,?_,?_,?_,?_,?_,trivial⟩
    ·intro a w hE hd ho
     refine .inl ⟨rfl,?_⟩
     intro Kq hKq
     have hF : Ext w2 w:=Ext.trans ((Ext.refl _).drew) hE
     have e2 : a.eval (.tmp 2) = .pointer (some ⟨wS.heap.size,0,none⟩):=ho 2 (by kernel_rfl)
     rw [eval_tmp] at e2
     clear m2 m3 r0 r1
     clear hd ho
     replace hKq:=Lib.hid hKq
     go_simp
     exact hKq.out _ _ rfl (Ext.refl _)
    ·intro a w hE hd ho
     refine .inl ⟨rfl,?_⟩
     intro Kq hKq
     have hF : Ext w2 w:=Ext.trans ((Ext.refl _).drew) hE
     have e36 : a.eval (.tmp 36) = .pointer (some ⟨wS.heap.size,2,none⟩):=hd 0 (by kernel_rfl)
     rw [eval_tmp] at e36
     have m2w:=Ext.cell hF m2
     clear m2 m3 r0 r1
     clear hd ho
     replace hKq:=Lib.hid hKq
     go_simp
     exact hKq.out _ _ rfl (Ext.refl _)
    ·intro a w hE hd ho
     refine .inl ⟨rfl,?_⟩
     intro Kq hKq
     have hF : Ext w2 w:=Ext.trans ((Ext.refl _).drew) hE
     have e8 : a.eval (.tmp 8) = .int .i64 (i : Int):=ho 8 (by kernel_rfl)
     rw [eval_tmp] at e8
     clear m2 m3 r0 r1
     clear hd ho
     replace hKq:=Lib.hid hKq
     go_simp
     exact hKq.out _ _ rfl (Ext.refl _)
    ·intro a w hE hd ho
     refine .inl ⟨rfl,?_⟩
     intro Kq hKq
     have hF : Ext w2 w:=Ext.trans ((Ext.refl _).drew) hE
     have e37 : a.eval (.tmp 37) = .slice (some ⟨kb,ko,none⟩) m.stks.length kc:=hd 1 (by kernel_rfl)
     rw [eval_tmp] at e37
     have e38 : a.eval (.tmp 38) = .int .i64 (i : Int):=hd 2 (by kernel_rfl)
     rw [eval_tmp] at e38
     clear m2 m3 r0 r1
     clear hd ho
     replace hKq:=Lib.hid hKq
     go_simp
     exact hKq.out _ _ rfl (Ext.refl _)
    ·intro a w hE hd ho
     refine .inl ⟨rfl,?_⟩
     intro Kq hKq
     have hF : Ext w2 w:=Ext.trans ((Ext.refl _).drew) hE
     have e39 : a.eval (.tmp 39) = .pointer (some ⟨kb,ko+i * 2,none⟩):=hd 3 (by kernel_rfl)
     rw [eval_tmp] at e39
     have r0w:=Ext.cell hF r0
     have r1w:=Ext.cell hF r1
     clear m2 m3 r0 r1
     clear hd ho
     replace hKq:=Lib.hid hKq
     go_simp
     exact hKq.out _ _ rfl (Ext.refl _)
    ·intro a w hE hd ho
     refine .inl ⟨rfl,?_⟩
     intro Kq hKq
     have hF : Ext w2 w:=Ext.trans ((Ext.refl _).drew) hE
     have e2 : a.eval (.tmp 2) = .pointer (some ⟨wS.heap.size,0,none⟩):=ho 2 (by kernel_rfl)
     rw [eval_tmp] at e2
     clear m2 m3 r0 r1
     clear hd ho
     replace hKq:=Lib.hid hKq
     go_simp
     exact hKq.out _ _ rfl (Ext.refl _)
    ·intro a w hE hd ho
     refine .inl ⟨rfl,?_⟩
     intro Kq hKq
     have hF : Ext w2 w:=Ext.trans ((Ext.refl _).drew) hE
     have e41 : a.eval (.tmp 41) = .pointer (some ⟨wS.heap.size,3,none⟩):=hd 5 (by kernel_rfl)
     rw [eval_tmp] at e41
     have m3w:=Ext.cell hF m3
     clear m2 m3 r0 r1
     clear hd ho
     replace hKq:=Lib.hid hKq
     go_simp
     exact hKq.out _ _ rfl (Ext.refl _)
    ·intro a w hE hd ho
     refine .inl ⟨rfl,?_⟩
     intro Kq hKq
     have hF : Ext w2 w:=Ext.trans ((Ext.refl _).drew) hE
     have e40 : a.eval (.tmp 40) = .agg #[.int .i64 st.num,.slice sa' st.cells.length sc']:=hd 4 (by kernel_rfl)
     rw [eval_tmp] at e40
     have e42 : a.eval (.tmp 42) = .slice ra m.run.length rc:=hd 6 (by kernel_rfl)
     rw [eval_tmp] at e42
     clear m2 m3 r0 r1
     clear hd ho
     replace hKq:=Lib.hid hKq
     go_simp
     refine (ref34_End (num:=st.num) (hKc.out.ext hF) (hRc.out.ext hF)).mono ?_
     rintro e wz ⟨rfl,hZ⟩
     rw [hdh.out]
     go_simp
     exact hKq.out _ _ rfl hZ
    ·intro a w hE hd ho
     refine .inl ⟨rfl,?_⟩
     intro Kq hKq
     have hF : Ext w2 w:=Ext.trans ((Ext.refl _).drew) hE
     have e43 : a.eval (.tmp 43) = .tuple #[.int .u8 why,.int .i64 e4]:=hd 7 (by kernel_rfl)
     rw [eval_tmp] at e43
     clear m2 m3 r0 r1
     clear hd ho
     replace hKq:=Lib.hid hKq
     go_simp
     exact hKq.out _ _ rfl (Ext.refl _)
    ·intro a w hE hd ho
     refine .inl ⟨rfl,?_⟩
     intro Kq hKq
     have hF : Ext w2 w:=Ext.trans ((Ext.refl _).drew) hE
     have e35 : a.eval (.tmp 35) = .tuple #[.int .u8 why,.int .i64 e4]:=hd 8 (by kernel_rfl)
     rw [eval_tmp] at e35
     clear m2 m3 r0 r1
     clear hd ho
     replace hKq:=Lib.hid hKq
     go_simp
     exact hKq.out _ _ rfl (Ext.refl _)
    ·intro a w hE hd ho
     refine .inl ⟨rfl,?_⟩
     intro Kq hKq
     have hF : Ext w2 w:=Ext.trans ((Ext.refl _).drew) hE
     have e35 : a.eval (.tmp 35) = .tuple #[.int .u8 why,.int .i64 e4]:=hd 8 (by kernel_rfl)
     rw [eval_tmp] at e35
     clear m2 m3 r0 r1
     clear hd ho
     replace hKq:=Lib.hid hKq
     go_simp
     exact hKq.out _ _ rfl (Ext.refl _)
    ·intro a w hE hd ho
     refine .inl ⟨rfl,?_⟩
     intro Kq hKq
     have hF : Ext w2 w:=Ext.trans ((Ext.refl _).drew) hE
     have e44 : a.eval (.tmp 44) = .int .u8 why:=hd 9 (by kernel_rfl)
     rw [eval_tmp] at e44
     clear m2 m3 r0 r1
     clear hd ho
     replace hKq:=Lib.hid hKq
     go_simp
     exact hKq.out _ _ rfl (Ext.refl _)
    ·intro a w hE hd ho
     refine .inl ⟨rfl,?_⟩
     intro Kq hKq
     have hF : Ext w2 w:=Ext.trans ((Ext.refl _).drew) hE
     have e45 : a.eval (.tmp 45) = .int .i64 e4:=hd 10 (by kernel_rfl)
     rw [eval_tmp] at e45
     clear m2 m3 r0 r1
     clear hd ho
     replace hKq:=Lib.hid hKq
     go_simp
     exact hKq.out _ _ rfl (Ext.refl _)
   ·intro vals wq hE hv
    have hF : Ext w2 wq:=Ext.trans ((Ext.refl _).drew) hE
    have e11 : vals 11 = .int .u8 why:=hv 11 (by decide)
    have e12 : vals 12 = .int .i64 e4:=hv 12 (by decide)
    clear hv hE m2 m3 r0 r1
    simp only [putAll]
    go_simp
    try rw [e11,e12]
    clear e11 e12
    replace bM:=bM.ext hF
    replace bR:=bR.ext hF
    have hF3:=Ext.trans hF2 hF
    obtain ⟨bM_0,bM_1,bM_2,bM_3,bM_4,bM_5,bM_l⟩:=bM.c6
    have bR_0 : World.cell? wq ⟨wS.heap.size+1,0,none⟩=some (.slice none 0 0):=bR.cell 0
    have bR_1 : World.cell? wq ⟨wS.heap.size+1,1,none⟩=some (.int .i64 0):=bR.cell 1
    have bR_2 : World.cell? wq ⟨wS.heap.size+1,2,none⟩=some (.slice none 0 0):=bR.cell 2
    have bR_3 : World.cell? wq ⟨wS.heap.size+1,3,none⟩=some (.slice none 0 0):=bR.cell 3
    have bR_4 : World.cell? wq ⟨wS.heap.size+1,4,none⟩=some (.int .i64 0):=bR.cell 4
    have bR_5 : World.cell? wq ⟨wS.heap.size+1,5,none⟩=some (.int .i64 0):=bR.cell 5
    have bR_f0 : World.frozen? wq ⟨wS.heap.size+1,0,none⟩=false:=bR.frozen 0
    have bR_f1 : World.frozen? wq ⟨wS.heap.size+1,1,none⟩=false:=bR.frozen 1
    have bR_f2 : World.frozen? wq ⟨wS.heap.size+1,2,none⟩=false:=bR.frozen 2
    have bR_f3 : World.frozen? wq ⟨wS.heap.size+1,3,none⟩=false:=bR.frozen 3
    have bR_f4 : World.frozen? wq ⟨wS.heap.size+1,4,none⟩=false:=bR.frozen 4
    have bR_f5 : World.frozen? wq ⟨wS.heap.size+1,5,none⟩=false:=bR.frozen 5
    have bR_l:=bR.lt
    go_wp2
    rw [hres.out]
    have hXe : ExtBut (fun b=>wS.heap.size≤b∧b < wS.heap.size+2) wq (World.setCell (World.setCell (World.setCell (World.setCell (World.setCell (World.setCell wq ⟨wS.heap.size+1,0,none⟩ (.slice none 0 0)) ⟨wS.heap.size+1,1,none⟩ (.int .i64 0)) ⟨wS.heap.size+1,2,none⟩ (.slice none 0 0)) ⟨wS.heap.size+1,3,none⟩ (.slice none 0 0)) ⟨wS.heap.size+1,4,none⟩ (.int .i64 0)) ⟨wS.heap.size+1,5,none⟩ (.int .i64 0)):=by (repeat' with_reducible first | exact ExtBut.refl _ _ | refine ExtBut.dr ?_ | refine ExtBut.sc ?_ ?_ | fail) <;> dsimp only <;> omega
    refine bodyPost_ret (v := .tuple #[.agg #[.slice none 0 0,.int .i64 0,.slice none 0 0,.slice none 0 0,.int .i64 0,.int .i64 0],.int .u8 why,.int .i64 0]) (by simp [results,Try.f16,go_sem,bR_0,bR_1,bR_2,bR_3,bR_4,bR_5]) rfl ?_
    have hFe:=ExtBut.ext hF3 hXe (fun b h=>h.1)
    exact ⟨_,rfl,FrMon.zero _ _,hFe⟩
  subst hw
  rw [if_pos rfl] at hres
  replace hres:=Lib.hid hres
  clear hok hMok
  have hmk:=make_Rows st.cells.length (by have:=hcl1.out;omega)
  go_enter Try.func16,Try.ntmps16
  obtain ⟨bM_0,bM_1,bM_2,bM_3,bM_4,bM_5,bM_l⟩:=bM.c6
  go_wp2_with fail
  clear bM_0 bM_1 bM_2 bM_3 bM_4 bM_5 bM_l
  refine (ref35_Check (hA.out.ext hE0) hn.out (hK.out.ext hE0) (hR.out.ext hE0)).mono ?_
  rintro e w1 ⟨rfl,hE1⟩
  replace bM:=bM.ext hE1
  replace bR:=bR.ext hE1
  have hF1:=Ext.trans hE0 hE1
  rw [hce.out]
  clear hw0
  obtain ⟨bM_0,bM_1,bM_2,bM_3,bM_4,bM_5,bM_l⟩:=bM.c6
  go_wp2_with fail
  clear bM_0 bM_1 bM_2 bM_3 bM_4 bM_5 bM_l
  refine (ref26_At n (hA.out.ext hF1)).mono ?_
  rintro e w2 ⟨rfl,hE2⟩
  replace bM:=bM.ext hE2
  replace bR:=bR.ext hE2
  have hF2:=Ext.trans hF1 hE2
  rw [hix.out]
  have a1w:=Ext.cell hF2 a1
  obtain ⟨bM_0,bM_1,bM_2,bM_3,bM_4,bM_5,bM_l⟩:=bM.c6
  go_upto_region 7 with fail
  clear bM_0 bM_1 bM_2 bM_3 bM_4 bM_5 bM_l
  clear a1w
  have m2 : World.cell? w2 ⟨wS.heap.size,2,none⟩=some (.slice (some ⟨kb,ko,none⟩) m.stks.length kc):=bM.cell 2
  have m3 : World.cell? w2 ⟨wS.heap.size,3,none⟩=some (.slice ra m.run.length rc):=bM.cell 3
  have r0:=Ext.cell hF2 k0
  have r1:=Ext.cell hF2 k1
  have hKc:=Lib.hid (hks.out.ext hF2)
  have hRc:=Lib.hid (hR.out.ext hF2)
  refine wp_region_go (L:=[Pr.eq (.pointer (some ⟨wS.heap.size,2,none⟩)),Pr.eq (.slice (some ⟨kb,ko,none⟩) m.stks.length kc),Pr.eq (.int .i64 (i : Int)),Pr.eq (.pointer (some ⟨kb,ko+i * 2,none⟩)),Pr.eq (.agg #[.int .i64 st.num,.slice sa' st.cells.length sc']),Pr.eq (.pointer (some ⟨wS.heap.size,3,none⟩)),Pr.eq (.slice ra m.run.length rc),Pr.eq (.tuple #[.int .u8 0,.int .i64 e4]),Pr.eq (.tuple #[.int .u8 0,.int .i64 e4]),Pr.eq (.int .u8 0),Pr.eq (.int .i64 e4),Pr.eq (.int .u8 0),Pr.eq (.int .i64 e4)]) (by kernel_rfl) (by kernel_rfl) ?_ ?_
  ·refine ⟨?_,?_,?_,?_,?_,?_,?_,?_,?_,?_,?_,?_,?_,trivial⟩
   ·intro a w hE hd ho
    refine .inl ⟨rfl,?_⟩
    intro Kq hKq
    have hF : Ext w2 w:=Ext.trans ((Ext.refl _).drew) hE
    have e2 : a.eval (.tmp 2) = .pointer (some ⟨wS.heap.size,0,none⟩):=ho 2 (by kernel_rfl)
    rw [eval_tmp] at e2
    clear m2 m3 r0 r1
    clear hd ho
    replace hKq:=Lib.hid hKq
    go_simp
    exact hKq.out _ _ rfl (Ext.refl _)
   ·intro a w hE hd ho
    refine .inl ⟨rfl,?_⟩
    intro Kq hKq
    have hF : Ext w2 w:=Ext.trans ((Ext.refl _).drew) hE
    have e36 : a.eval (.tmp 36) = .pointer (some ⟨wS.heap.size,2,none⟩):=hd 0 (by kernel_rfl)
    rw [eval_tmp] at e36
    have m2w:=Ext.cell hF m2
    clear m2 m3 r0 r1
    clear hd ho
    replace hKq:=Lib.hid hKq
    go_simp
    exact hKq.out _ _ rfl (Ext.refl _)
   ·intro a w hE hd ho
    refine .inl ⟨rfl,?_⟩
    intro Kq hKq
    have hF : Ext w2 w:=Ext.trans ((Ext.refl _).drew) hE
    have e8 : a.eval (.tmp 8) = .int .i64 (i : Int):=ho 8 (by kernel_rfl)
    rw [eval_tmp] at e8
    clear m2 m3 r0 r1
    clear hd ho
    replace hKq:=Lib.hid hKq
    go_simp
    exact hKq.out _ _ rfl (Ext.refl _)
   ·intro a w hE hd ho
    refine .inl ⟨rfl,?_⟩
    intro Kq hKq
    have hF : Ext w2 w:=Ext.trans ((Ext.refl _).drew) hE
    have e37 : a.eval (.tmp 37) = .slice (some ⟨kb,ko,none⟩) m.stks.length kc:=hd 1 (by kernel_rfl)
    rw [eval_tmp] at e37
    have e38 : a.eval (.tmp 38) = .int .i64 (i : Int):=hd 2 (by kernel_rfl)
    rw [eval_tmp] at e38
    clear m2 m3 r0 r1
    clear hd ho
    replace hKq:=Lib.hid hKq
    go_simp
    exact hKq.out _ _ rfl (Ext.refl _)
   ·intro a w hE hd ho
    refine .inl ⟨rfl,?_⟩
    intro Kq hKq
    have hF : Ext w2 w:=Ext.trans ((Ext.refl _).drew) hE
    have e39 : a.eval (.tmp 39) = .pointer (some ⟨kb,ko+i * 2,none⟩):=hd 3 (by kernel_rfl)
    rw [eval_tmp] at e39
    have r0w:=Ext.cell hF r0
    have r1w:=Ext.cell hF r1
    clear m2 m3 r0 r1
    clear hd ho
    replace hKq:=Lib.hid hKq
    go_simp
    exact hKq.out _ _ rfl (Ext.refl _)
   ·intro a w hE hd ho
    refine .inl ⟨rfl,?_⟩
    intro Kq hKq
    have hF : Ext w2 w:=Ext.trans ((Ext.refl _).drew) hE
    have e2 : a.eval (.tmp 2) = .pointer (some ⟨wS.heap.size,0,none⟩):=ho 2 (by kernel_rfl)
    rw [eval_tmp] at e2
    clear m2 m3 r0 r1
    clear hd ho
    replace hKq:=Lib.hid hKq
    go_simp
    exact hKq.out _ _ rfl (Ext.refl _)
   ·intro a w hE hd ho
    refine .inl ⟨rfl,?_⟩
    intro Kq hKq
    have hF : Ext w2 w:=Ext.trans ((Ext.refl _).drew) hE
    have e41 : a.eval (.tmp 41) = .pointer (some ⟨wS.heap.size,3,none⟩):=hd 5 (by kernel_rfl)
    rw [eval_tmp] at e41
    have m3w:=Ext.cell hF m3
    clear m2 m3 r0 r1
    clear hd ho
    replace hKq:=Lib.hid hKq
    go_simp
    exact hKq.out _ _ rfl (Ext.refl _)
   ·intro a w hE hd ho
    refine .inl ⟨rfl,?_⟩
    intro Kq hKq
    have hF : Ext w2 w:=Ext.trans ((Ext.refl _).drew) hE
    have e40 : a.eval (.tmp 40) = .agg #[.int .i64 st.num,.slice sa' st.cells.length sc']:=hd 4 (by kernel_rfl)
    rw [eval_tmp] at e40
    have e42 : a.eval (.tmp 42) = .slice ra m.run.length rc:=hd 6 (by kernel_rfl)
    rw [eval_tmp] at e42
    clear m2 m3 r0 r1
    clear hd ho
    replace hKq:=Lib.hid hKq
    go_simp
    refine (ref34_End (num:=st.num) (hKc.out.ext hF) (hRc.out.ext hF)).mono ?_
    rintro e wz ⟨rfl,hZ⟩
    rw [hdh.out]
    go_simp
    exact hKq.out _ _ rfl hZ
   ·intro a w hE hd ho
    refine .inl ⟨rfl,?_⟩
    intro Kq hKq
    have hF : Ext w2 w:=Ext.trans ((Ext.refl _).drew) hE
    have e43 : a.eval (.tmp 43) = .tuple #[.int .u8 0,.int .i64 e4]:=hd 7 (by kernel_rfl)
    rw [eval_tmp] at e43
    clear m2 m3 r0 r1
    clear hd ho
    replace hKq:=Lib.hid hKq
    go_simp
    exact hKq.out _ _ rfl (Ext.refl _)
   ·intro a w hE hd ho
    refine .inl ⟨rfl,?_⟩
    intro Kq hKq
    have hF : Ext w2 w:=Ext.trans ((Ext.refl _).drew) hE
    have e35 : a.eval (.tmp 35) = .tuple #[.int .u8 0,.int .i64 e4]:=hd 8 (by kernel_rfl)
    rw [eval_tmp] at e35
    clear m2 m3 r0 r1
    clear hd ho
    replace hKq:=Lib.hid hKq
    go_simp
    exact hKq.out _ _ rfl (Ext.refl _)
   ·intro a w hE hd ho
    refine .inl ⟨rfl,?_⟩
    intro Kq hKq
    have hF : Ext w2 w:=Ext.trans ((Ext.refl _).drew) hE
    have e35 : a.eval (.tmp 35) = .tuple #[.int .u8 0,.int .i64 e4]:=hd 8 (by kernel_rfl)
    rw [eval_tmp] at e35
    clear m2 m3 r0 r1
    clear hd ho
    replace hKq:=Lib.hid hKq
    go_simp
    exact hKq.out _ _ rfl (Ext.refl _)
   ·intro a w hE hd ho
    refine .inl ⟨rfl,?_⟩
    intro Kq hKq
    have hF : Ext w2 w:=Ext.trans ((Ext.refl _).drew) hE
    have e44 : a.eval (.tmp 44) = .int .u8 0:=hd 9 (by kernel_rfl)
    rw [eval_tmp] at e44
    clear m2 m3 r0 r1
    clear hd ho
    replace hKq:=Lib.hid hKq
    go_simp
    exact hKq.out _ _ rfl (Ext.refl _)
   ·intro a w hE hd ho
    refine .inl ⟨rfl,?_⟩
    intro Kq hKq
    have hF : Ext w2 w:=Ext.trans ((Ext.refl _).drew) hE
    have e45 : a.eval (.tmp 45) = .int .i64 e4:=hd 10 (by kernel_rfl)
    rw [eval_tmp] at e45
    clear m2 m3 r0 r1
    clear hd ho
    replace hKq:=Lib.hid hKq
    go_simp
    exact hKq.out _ _ rfl (Ext.refl _)
  ·intro vals wq hE hv
   have hF : Ext w2 wq:=Ext.trans ((Ext.refl _).drew) hE
   have e11 : vals 11 = .int .u8 0:=hv 11 (by decide)
   have e12 : vals 12 = .int .i64 e4:=hv 12 (by decide)
   clear hv hE m2 m3 r0 r1
   simp only [putAll]
   go_simp
   try rw [e11,e12]
   clear e11 e12
   replace bM:=bM.ext hF
   replace bR:=bR.ext hF
   have hF3:=Ext.trans hF2 hF
   obtain ⟨bM_0,bM_1,bM_2,bM_3,bM_4,bM_5,bM_l⟩:=bM.c6
   go_wp2_with fail
   clear bM_0 bM_1 bM_2 bM_3 bM_4 bM_5 bM_l
   have hXcs:=Lib.hid (by have:=bR.lt;omega : wS.heap.size+2≤wq.heap.size)
   refine (ref35_Twin (hA.out.ext hF3) (hK.out.ext hF3) (hR.out.ext hF3) hcl.out.1 hcl.out.2.1 hcl.out.2.2).mono ?_
   rintro e w4 ⟨TN,ca,ck,cr,vsA,vs,rfl,hC,hE4⟩
   replace bM:=bM.ext hE4
   replace bR:=bR.ext hE4
   have hF4:=Ext.trans hF3 hE4
   have hv:=(OM.read hC.al).form
   obtain ⟨ca,cac,rfl,-⟩:=hv
   have hv:=hC.stk.outer.sl.slice_form
   obtain ⟨ck,ckc,rfl,-⟩:=hv
   have hv:=hC.run.sl.slice_form
   obtain ⟨cr,crc,rfl,-⟩:=hv
   replace hC:=Lib.hid hC
   have hXc:=Lib.hid (ExtBut.refl (fun b=>wS.heap.size≤b∧b < wS.heap.size+2) w4)
   have hTl:=Lib.hid (hC.out.low.1)
   have hTs:=Lib.hid (hC.out.low.2)
   obtain ⟨bM_0,bM_1,bM_2,bM_3,bM_4,bM_5,bM_l⟩:=bM.c6
   go_upto_region 11 with fail
   clear bM_0 bM_1 bM_2 bM_3 bM_4 bM_5 bM_l
   have szbO:=Lib.hid (by have:=bR.lt;omega : wS.heap.size+2≤w4.heap.size)
   have bO:=Box.new w4 28 #[.slice ca m.mem.al.length cac,.int .i64 m.mem.next,.slice ck m.stks.length ckc,.slice cr m.run.length crc,.int .i64 m.tag,.int .i64 m.call]
   have hzb0 : (World.alloc w4 (.cells #[.slice ca m.mem.al.length cac,.int .i64 m.mem.next,.slice ck m.stks.length ckc,.slice cr m.run.length crc,.int .i64 m.tag,.int .i64 m.call] 28)).heap.size=w4.heap.size+1:=by rw [World.size_alloc]
   have hx5 : Ext w4 (World.alloc w4 (.cells #[.slice ca m.mem.al.length cac,.int .i64 m.mem.next,.slice ck m.stks.length ckc,.slice cr m.run.length crc,.int .i64 m.tag,.int .i64 m.call] 28)):=(Ext.refl _).alloc _
   obtain ⟨w5b,hw5⟩ : ∃ z,World.alloc w4 (.cells #[.slice ca m.mem.al.length cac,.int .i64 m.mem.next,.slice ck m.stks.length ckc,.slice cr m.run.length crc,.int .i64 m.tag,.int .i64 m.call] 28)=z:=⟨_,rfl⟩
   rw [hw5] at bO hx5 hzb0 ⊢
   clear hw5
   replace bM:=bM.ext hx5
   replace bR:=bR.ext hx5
   replace hXc:=Lib.hid (ExtBut.trans hXc.out (ExtBut.of_ext hx5))
   have hF6:=Ext.trans hF4 hx5
   clear hzb0
   replace hXc:=Lib.hid (ExtBut.mono hXc.out (S':=(fun b=>(wS.heap.size≤b∧b < wS.heap.size+2)∨b=w4.heap.size)) (fun b _ h => .inl h))
   obtain ⟨bO_0,bO_1,bO_2,bO_3,bO_4,bO_5,bO_l⟩:=bO.c6
   go_wp2_with fail
   clear bO_0 bO_1 bO_2 bO_3 bO_4 bO_5 bO_l
   have hBO0:=Lib.hid bO.lt
   have hXms:=Lib.hid (by have:=bR.lt;omega : wS.heap.size+2≤w5b.heap.size)
   have hXc_hXm:=Lib.hid hXc.out.size
   refine (ref26_Ended (next:=m.mem.next) halh.out (OM.read (hC.out.al.ext hx5)) hcl.out.1).mono ?_
   rintro e w7 ⟨v,rfl,fM,hE7⟩
   replace bM:=bM.ext hE7
   replace bR:=bR.ext hE7
   replace bO:=bO.ext hE7
   replace hXc:=Lib.hid (ExtBut.trans hXc.out (ExtBut.of_ext hE7))
   have hF7:=Ext.trans hF6 hE7
   obtain ⟨sx,rfl,hxm⟩:=FrM.fs fM
   clear fM
   dsimp only at hxm
   have hv:=hxm.read.form
   obtain ⟨xa,xc,rfl,-⟩:=hv
   rw [List.length_set] at hxm ⊢
   replace hxm:=Lib.hid hxm
   have hXm:=Lib.hid (ExtBut.refl (fun b=>(wS.heap.size≤b∧b < wS.heap.size+2)∨b=w4.heap.size) w7)
   have bO_0 : World.cell? w7 ⟨w4.heap.size,0,none⟩=some (.slice ca m.mem.al.length cac):=bO.cell 0
   have bO_1 : World.cell? w7 ⟨w4.heap.size,1,none⟩=some (.int .i64 m.mem.next):=bO.cell 1
   have bO_2 : World.cell? w7 ⟨w4.heap.size,2,none⟩=some (.slice ck m.stks.length ckc):=bO.cell 2
   have bO_3 : World.cell? w7 ⟨w4.heap.size,3,none⟩=some (.slice cr m.run.length crc):=bO.cell 3
   have bO_4 : World.cell? w7 ⟨w4.heap.size,4,none⟩=some (.int .i64 m.tag):=bO.cell 4
   have bO_5 : World.cell? w7 ⟨w4.heap.size,5,none⟩=some (.int .i64 m.call):=bO.cell 5
   have bO_f0 : World.frozen? w7 ⟨w4.heap.size,0,none⟩=false:=bO.frozen 0
   have bO_f1 : World.frozen? w7 ⟨w4.heap.size,1,none⟩=false:=bO.frozen 1
   have bO_f2 : World.frozen? w7 ⟨w4.heap.size,2,none⟩=false:=bO.frozen 2
   have bO_f3 : World.frozen? w7 ⟨w4.heap.size,3,none⟩=false:=bO.frozen 3
   have bO_f4 : World.frozen? w7 ⟨w4.heap.size,4,none⟩=false:=bO.frozen 4
   have bO_f5 : World.frozen? w7 ⟨w4.heap.size,5,none⟩=false:=bO.frozen 5
   have bO_l:=bO.lt
   go_upto_region 12 with fail
   clear bO_0 bO_1 bO_2 bO_3 bO_4 bO_5 bO_f0 bO_f1 bO_f2 bO_f3 bO_f4 bO_f5 bO_l
   have hS8 : ExtBut (fun b=>(wS.heap.size≤b∧b < wS.heap.size+2)∨b=w4.heap.size) w7 (World.setCell (World.setCell w7 ⟨w4.heap.size,0,none⟩ (.slice xa m.mem.al.length xc)) ⟨w4.heap.size,1,none⟩ (.int .i64 m.mem.next)):=by (repeat' with_reducible first | exact ExtBut.refl _ _ | refine ExtBut.dr ?_ | refine ExtBut.sc ?_ ?_ | fail) <;> dsimp only <;> omega
   replace bM:=(Box.other (Box.other bM (p:=⟨w4.heap.size,0,none⟩) (by have:=szbO.out;show w4.heap.size≠wS.heap.size;omega) (.slice xa m.mem.al.length xc)) (p:=⟨w4.heap.size,1,none⟩) (by have:=szbO.out;show w4.heap.size≠wS.heap.size;omega) (.int .i64 m.mem.next))
   replace bR:=(Box.other (Box.other bR (p:=⟨w4.heap.size,0,none⟩) (by have:=szbO.out;show w4.heap.size≠wS.heap.size+1;omega) (.slice xa m.mem.al.length xc)) (p:=⟨w4.heap.size,1,none⟩) (by have:=szbO.out;show w4.heap.size≠wS.heap.size+1;omega) (.int .i64 m.mem.next))
   replace bO:=(Box.setL (Box.setL bO 0 (.slice xa m.mem.al.length xc)) 1 (.int .i64 m.mem.next))
   simp only [List.set_cons_zero,List.set_cons_succ] at bO
   obtain ⟨w8s,hw8⟩ : ∃ z,(World.setCell (World.setCell w7 ⟨w4.heap.size,0,none⟩ (.slice xa m.mem.al.length xc)) ⟨w4.heap.size,1,none⟩ (.int .i64 m.mem.next))=z:=⟨_,rfl⟩
   rw [hw8] at hS8 bM bR bO ⊢
   clear hw8
   have hF8:=ExtBut.ext hF7 hS8 (fun b h=>by have h0:=szbO.out;rcases h with h | h <;> omega)
   replace hXc:=Lib.hid (ExtBut.trans hXc.out hS8)
   replace hXm:=Lib.hid (ExtBut.trans hXm.out hS8)
   clear hS8
   have hBO1:=bO.lt;have hBO2:=hBO0.out;have hTl1:=hTl.out;have hTs1:=hTs.out;have hXc1:=hXcs.out;have hXc2:=hXc.out.size
   have hcc:=OwnK.cell hC.out.stk hsth.out
   obtain ⟨G,sv,e,hG1,hG2,hvs,-,c0,c1,hfr⟩:=hcc
   subst e
   have hvf:=(hC.out.stk.inner i sv st hvs hsth.out).read.form
   obtain ⟨sva,svc,rfl,-⟩:=hvf
   have hGn : ¬ ((fun b=>(wS.heap.size≤b∧b < wS.heap.size+2)∨b=w4.heap.size)) G:=by
    intro h
    rcases h with h | h <;> omega
   have d0:=hXc.out.cell c0 hGn
   have d1:=hXc.out.cell c1 hGn
   have hOo:=ExtBut.own hC.out.stk.outer hXc.out (fun g e=>by have e' : some G=some g:=e;cases e';exact hGn)
   have hGW : G < w8s.heap.size:=by omega
   have hGb : G≠w4.heap.size:=by omega
   have hGb' : w4.heap.size≠G:=by omega
   have hfr1:=hOo.frozen (i * 2+1)
   have hgo : G≠w8s.heap.size:=by omega
   have hgo' : w8s.heap.size≠G:=by omega
   replace hOo:=Lib.hid hOo;replace hvs:=Lib.hid hvs
   clear c0 c1 hfr hGn
   have bO_0 : World.cell? w8s ⟨w4.heap.size,0,none⟩=some (.slice xa m.mem.al.length xc):=bO.cell 0
   have bO_1 : World.cell? w8s ⟨w4.heap.size,1,none⟩=some (.int .i64 m.mem.next):=bO.cell 1
   have bO_2 : World.cell? w8s ⟨w4.heap.size,2,none⟩=some (.slice (some ⟨G,0,none⟩) m.stks.length ckc):=bO.cell 2
   have bO_3 : World.cell? w8s ⟨w4.heap.size,3,none⟩=some (.slice cr m.run.length crc):=bO.cell 3
   have bO_4 : World.cell? w8s ⟨w4.heap.size,4,none⟩=some (.int .i64 m.tag):=bO.cell 4
   have bO_5 : World.cell? w8s ⟨w4.heap.size,5,none⟩=some (.int .i64 m.call):=bO.cell 5
   have bO_f0 : World.frozen? w8s ⟨w4.heap.size,0,none⟩=false:=bO.frozen 0
   have bO_f1 : World.frozen? w8s ⟨w4.heap.size,1,none⟩=false:=bO.frozen 1
   have bO_f2 : World.frozen? w8s ⟨w4.heap.size,2,none⟩=false:=bO.frozen 2
   have bO_f3 : World.frozen? w8s ⟨w4.heap.size,3,none⟩=false:=bO.frozen 3
   have bO_f4 : World.frozen? w8s ⟨w4.heap.size,4,none⟩=false:=bO.frozen 4
   have bO_f5 : World.frozen? w8s ⟨w4.heap.size,5,none⟩=false:=bO.frozen 5
   have bO_l:=bO.lt
   go_region
   clear bO_0 bO_1 bO_2 bO_3 bO_4 bO_5 bO_f0 bO_f1 bO_f2 bO_f3 bO_f4 bO_f5 bO_l
   have hEn : Ext (World.setCell w8s ⟨G,i * 2+1,none⟩ (.slice (some ⟨w8s.heap.size,0,none⟩) st.cells.length st.cells.length)) (World.drew (World.alloc (World.setCell w8s ⟨G,i * 2+1,none⟩ (.slice (some ⟨w8s.heap.size,0,none⟩) st.cells.length st.cells.length)) (.cells (zrowsA st.cells.length) 60))):=((Ext.refl _).alloc _).drew
   have hXg : ExtBut (fun b=>b=G) w8s (World.drew (World.alloc (World.setCell w8s ⟨G,i * 2+1,none⟩ (.slice (some ⟨w8s.heap.size,0,none⟩) st.cells.length st.cells.length)) (.cells (zrowsA st.cells.length) 60))):=(ExtBut.setCell w8s ⟨G,i * 2+1,none⟩ (.slice (some ⟨w8s.heap.size,0,none⟩) st.cells.length st.cells.length)).trans (ExtBut.of_ext hEn)
   have hOg:=(hOo.out.set (i * 2+1) (.slice (some ⟨w8s.heap.size,0,none⟩) st.cells.length st.cells.length)).ext hEn
   have hZ:=(zrows_own st.cells.length (by have:=hcl1.out;omega) (World.setCell w8s ⟨G,i * 2+1,none⟩ (.slice (some ⟨w8s.heap.size,0,none⟩) st.cells.length st.cells.length)) (B:=w8s.heap.size) (by simp)).ext ((Ext.refl _).drew)
   simp only [World.size_setCell] at hZ
   have hXT : ExtBut (fun b=>b < TN∨b=w4.heap.size∨b=G) w4 (World.drew (World.alloc (World.setCell w8s ⟨G,i * 2+1,none⟩ (.slice (some ⟨w8s.heap.size,0,none⟩) st.cells.length st.cells.length)) (.cells (zrowsA st.cells.length) 60))):=(hXc.out.mono (fun b _ h=>by rcases h with h | h;exact .inl (by omega);exact .inr (.inl h))).trans (hXg.mono (fun b _ h => .inr (.inr h)))
   have hKf:=OwnK.setF (BO:=w4.heap.size) (y:=endedK st) hC.out.stk hsth.out rfl hXT (Nat.le_refl _) hOg (fun wS'' hw=>Sts.zeros (hZ.fs wS'' fun b e hl=>hw b (by have:=(hZ.lt e).1;have:=szbO.out;omega) hl))
   have hXR : ExtBut (fun b=>b < wS.heap.size+2∨b=w4.heap.size∨b=G) w4 (World.drew (World.alloc (World.setCell w8s ⟨G,i * 2+1,none⟩ (.slice (some ⟨w8s.heap.size,0,none⟩) st.cells.length st.cells.length)) (.cells (zrowsA st.cells.length) 60))):=(hXc.out.mono (fun b _ h=>by rcases h with h | h;exact .inl h.2;exact .inr (.inl h))).trans (hXg.mono (fun b _ h => .inr (.inr h)))
   have hRf:=hC.out.runF.to (S':=fun b=>wS.heap.size+2≤b∧b≠w4.heap.size) hXR (fun b h1 hl h2=>by have h3:=hC.out.loR b h1;have h4:=(hC.out.run.lt h1).1;rcases h2 with h2 | h2 | h2 <;> omega) (fun b h1 _=>⟨by have h4:=(hC.out.run.lt h1).1;omega,by have h3:=hC.out.loR b h1;omega⟩)
   replace bM:=bM.but hXg (by omega);replace bR:=bR.but hXg (by omega);replace bO:=bO.but hXg (by omega)
   have hFg:=ExtBut.ext hF8 hXg (fun b h=>by have h' : b=G:=h;omega)
   have hXm1:=hXm.out.size;have hXms1:=hXms.out
   have hMf:=(hxm.out.to (S':=fun b=>w4.heap.size < b) hXm.out (fun b h1 hl h2=>by rcases h2 with h2 | h2 <;> omega) (fun b h1 _=>by omega)).to (S':=fun b=>w4.heap.size < b) hXg (fun b h1 _ h2=>by have h' : b=G:=h2;omega) (fun b h1 _=>h1)
   replace hKf:=Lib.hid hKf;replace hRf:=Lib.hid hRf;replace hMf:=Lib.hid hMf
   obtain ⟨wE,hwE⟩ : ∃ z,(World.drew (World.alloc (World.setCell w8s ⟨G,i * 2+1,none⟩ (.slice (some ⟨w8s.heap.size,0,none⟩) st.cells.length st.cells.length)) (.cells (zrowsA st.cells.length) 60)))=z:=⟨_,rfl⟩
   rw [hwE] at hKf hRf hMf bM bR bO hFg ⊢
   clear hwE hEn hXg hOg hZ hXT hXR hXc hXm hOo d0 d1 hfr1 hXm1 hXc2 hGW hgo hgo'
   have hXz:=Lib.hid (ExtBut.refl (fun b=>(wS.heap.size≤b∧b < wS.heap.size+2)∨b=w4.heap.size) wE)
   obtain ⟨bM_0,bM_1,bM_2,bM_3,bM_4,bM_5,bM_l⟩:=bM.c6
   have bR_0 : World.cell? wE ⟨wS.heap.size+1,0,none⟩=some (.slice none 0 0):=bR.cell 0
   have bR_1 : World.cell? wE ⟨wS.heap.size+1,1,none⟩=some (.int .i64 0):=bR.cell 1
   have bR_2 : World.cell? wE ⟨wS.heap.size+1,2,none⟩=some (.slice none 0 0):=bR.cell 2
   have bR_3 : World.cell? wE ⟨wS.heap.size+1,3,none⟩=some (.slice none 0 0):=bR.cell 3
   have bR_4 : World.cell? wE ⟨wS.heap.size+1,4,none⟩=some (.int .i64 0):=bR.cell 4
   have bR_5 : World.cell? wE ⟨wS.heap.size+1,5,none⟩=some (.int .i64 0):=bR.cell 5
   have bR_f0 : World.frozen? wE ⟨wS.heap.size+1,0,none⟩=false:=bR.frozen 0
   have bR_f1 : World.frozen? wE ⟨wS.heap.size+1,1,none⟩=false:=bR.frozen 1
   have bR_f2 : World.frozen? wE ⟨wS.heap.size+1,2,none⟩=false:=bR.frozen 2
   have bR_f3 : World.frozen? wE ⟨wS.heap.size+1,3,none⟩=false:=bR.frozen 3
   have bR_f4 : World.frozen? wE ⟨wS.heap.size+1,4,none⟩=false:=bR.frozen 4
   have bR_f5 : World.frozen? wE ⟨wS.heap.size+1,5,none⟩=false:=bR.frozen 5
   have bR_l:=bR.lt
   obtain ⟨bO_0,bO_1,bO_2,bO_3,bO_4,bO_5,bO_l⟩:=bO.c6
   go_wp2
   rw [hres.out]
   have hXe : ExtBut (fun b=>(wS.heap.size≤b∧b < wS.heap.size+2)∨b=w4.heap.size) wE (World.setCell (World.setCell (World.setCell (World.setCell (World.setCell (World.setCell wE ⟨wS.heap.size+1,0,none⟩ (.slice xa m.mem.al.length xc)) ⟨wS.heap.size+1,1,none⟩ (.int .i64 m.mem.next)) ⟨wS.heap.size+1,2,none⟩ (.slice (some ⟨G,0,none⟩) m.stks.length ckc)) ⟨wS.heap.size+1,3,none⟩ (.slice cr m.run.length crc)) ⟨wS.heap.size+1,4,none⟩ (.int .i64 m.tag)) ⟨wS.heap.size+1,5,none⟩ (.int .i64 m.call)):=by (repeat' with_reducible first | exact ExtBut.refl _ _ | refine ExtBut.dr ?_ | refine ExtBut.sc ?_ ?_ | fail) <;> dsimp only <;> omega
   refine bodyPost_ret (v := .tuple #[.agg #[.slice xa m.mem.al.length xc,.int .i64 m.mem.next,.slice (some ⟨G,0,none⟩) m.stks.length ckc,.slice cr m.run.length crc,.int .i64 m.tag,.int .i64 m.call],.int .u8 0,.int .i64 0]) (by simp [results,Try.f16,go_sem,bR_0,bR_1,bR_2,bR_3,bR_4,bR_5]) rfl ?_
   have hFe:=ExtBut.ext hFg hXe (fun b h=>by have h0:=szbO.out;rcases h with h | h <;> omega)
   have hXze:=ExtBut.trans hXz.out hXe
   have hl7:=szbO.out
   have hen:=hendh.out
   refine ⟨_,rfl,FrMon.of_fs (m:=⟨⟨endAt m.mem.al i,m.mem.next⟩,m.stks.set i (endedK st),m.run,m.tag,m.call⟩) ?_ (hKf.out.to (S':=fun b=>wS.heap.size≤b) hXze (fun b h1 _ h2=>by rcases h2 with h2 | h2 <;> omega) (fun b h1 _=>by omega)) (hRf.out.to (S':=fun b=>wS.heap.size≤b) hXze (fun b h1 _ h2=>by rcases h2 with h2 | h2 <;> omega) (fun b h1 _=>by omega)),hFe⟩
   dsimp only
   rw [hen]
   exact hMf.out.to (S':=fun b=>wS.heap.size≤b) hXze (fun b h1 _ h2=>by rcases h2 with h2 | h2 <;> omega) (fun b h1 _=>by omega)
end Go.Proofs.Ytnplphcnagooeaa
