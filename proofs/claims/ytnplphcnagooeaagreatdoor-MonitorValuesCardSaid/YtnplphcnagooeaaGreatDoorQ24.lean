/- Several texts in one: MonN, Door. -/
import Derived.Test.YtnplphcnagooeaaGreatDoorQ11
import Derived.Test.YtnplphcnagooeaaGreatDoorQ17
import Derived.Test.YtnplphcnagooeaaGreatDoorQ14
import Derived.Test.YtnplphcnagooeaaGreatDoorQ23
import Derived.Test.YtnplphcnagooeaaGreatDoorQ09
import Derived.Test.YtnplphcnagooeaaGreatDoorQ03
import Derived.Test.YtnplphcnagooeaaGreatDoorCards
import Derived.Test.YtnplphcnagooeaaGreatDoorTie
import Derived.ProofKit
import Derived.OpenShut
import Derived.Deep.DeepHandedRow
import Derived.Lib.LaidTab
/- Contracts: monitor.End. (printed by gen/mon35g.py) -/
namespace Go.Proofs.YtnplphcnagooeaaGreatDoor
set_option maxRecDepth 100000
open Go.RowKit
theorem endM_bad {m : Mon} {n : Int} (h : okMon m=false) : endM m n=(Mon.zero,0,8):=by simp [endM,h]
theorem endR_cases {m : Mem} {n : Int} (hok : m.ok=true) : (endR m n=(Mem.zero,6)∧(atNum m.al n=none ∨ ∃ i,atNum m.al n=some i∧(m.al.getD i Alloc.zero).live=false)) ∨ ∃ i a,atNum m.al n=some i∧m.al[i]? = some a∧a.live=true∧endR m n=(⟨endAt m.al i,m.next⟩,0):=by
 unfold endR
 rw [if_pos hok]
 cases hat : atNum m.al n with
 | none=>exact .inl ⟨rfl,.inl rfl⟩
 | some i =>
  have hil:=(atNum_lt hat).1
  have ha : m.al[i]? = some m.al[i]:=by simp [hil]
  have hg : m.al.getD i Alloc.zero=m.al[i]:=by rw [List.getD_eq_getElem?_getD,ha];rfl
  dsimp only
  rw [hg]
  cases hlv : m.al[i].live
  ·exact .inl ⟨rfl,.inr ⟨i,rfl,by rw [hg];exact hlv⟩⟩
  ·exact .inr ⟨i,_,rfl,ha,hlv,rfl⟩
theorem endR_zero {m x : Mem} {n : Int} (hok : m.ok=true) (h : endR m n=(x,0)) : ∃ i a,atNum m.al n=some i∧m.al[i]? = some a∧a.live=true∧x=⟨endAt m.al i,m.next⟩:=by
 rcases endR_cases (n:=n) hok with ⟨h1,-⟩ | ⟨i,a,h1,h2,h3,h4⟩
 ·rw [h1] at h;simp at h
 ·rw [h4] at h;simp only [Prod.mk.injEq,and_true] at h;exact ⟨i,a,h1,h2,h3,h.symm⟩
theorem endM_none {m : Mon} {n : Int} (h : okMon m=true) (he : (endR m.mem n).2≠0) : endM m n=(Mon.zero,0,(endR m.mem n).2):=by
 have hk:=(MonOk.of h).memOk
 rcases endR_cases (n:=n) hk with ⟨h1,h2⟩ | ⟨i,a,h1,h2,h3,h4⟩
 ·unfold endM
  rw [if_pos h,h1]
  rcases h2 with h2 | ⟨i,h2,h3⟩
  ·rw [h2]
  ·rw [h2];dsimp only;rw [h3];rfl
 ·rw [h4] at he;exact absurd rfl he
theorem endM_live {m : Mon} {n : Int} {i : Nat} {al : Alloc} {st : Stk} {why e4 : Int} (h : okMon m=true) (hat : atNum m.mem.al n=some i) (hal : m.mem.al[i]? = some al) (hlv : al.live=true) (hst : m.stks[i]? = some st) (hd : endR34 st m.run=(why,e4)) :
  endM m n=if why=0 then (⟨⟨endAt m.mem.al i,m.mem.next⟩,m.stks.set i (endedK st),m.run,m.tag,m.call⟩,0,0) else (Mon.zero,why,0):=by
 have hg : m.mem.al.getD i Alloc.zero=al:=by rw [List.getD_eq_getElem?_getD,hal];rfl
 have hk : m.stks.getD i Stk.zero=st:=by rw [List.getD_eq_getElem?_getD,hst];rfl
 unfold endM
 rw [if_pos h,hat]
 dsimp only
 rw [hg,hlv,hk,hd]
 rfl
theorem trows_srow' : ∀ {vs : List Value} {l : List (List Item)},vs.length=l.length→trows srow vs l=vs
 | [],[],_=>rfl
 | v :: vs,a :: l,h=>by
  have ih:=trows_srow' (vs:=vs) (l:=l) (by simpa using h)
  unfold trows at ih ⊢
  simp only [List.zip_cons_cons,List.flatMap_cons,srow] at ih ⊢
  rw [ih]
  rfl
theorem zeroCells_nil (n : Nat) : (Builtin.zeroCells #[.slice none 0 0] n).toList=List.replicate n (.slice none 0 0):=by
 apply List.ext_getElem?
 intro i
 unfold Builtin.zeroCells
 by_cases h : i < n
 ·simp [h,Nat.mod_one]
 ·simp [h]
theorem Stack.infoZ : ∃ i z,Tryz.prog.info? 72=some i∧i.zero=some z∧z.cells=#[.slice none 0 0]:=by
 have h : (Tryz.prog.info? 72).map (fun i=>i.zero.map (fun z=>z.cells))=some (some #[.slice none 0 0]):=by kernel_rfl
 cases hi : Tryz.prog.info? 72 with
 | none=>rw [hi] at h;simp at h
 | some i =>
  rw [hi] at h
  simp only [Option.map_some,Option.some.injEq] at h
  cases hz : i.zero with
  | none=>rw [hz] at h;simp at h
  | some z =>
   rw [hz] at h
   exact ⟨i,z,rfl,hz,by simpa using h⟩
theorem Cloned.but {w w' : World} {B : Nat} {c : Nat→Nat} {sa ss sr : Value} {vs : List Value} {m : Mon} {S : Nat→Prop} (h : Cloned w B c sa ss sr vs m) (hE : ExtBut S w w') (hS : ∀ b,B≤b → ¬ S b) : Cloned w' B c sa ss sr vs m :=
 ⟨h.al.but hE fun b h1 _=>hS b h1.1,h.run.but hE fun b h1 _=>hS b h1.1,h.len,ExtBut.own h.outer hE fun g e=>hS g (h.outer.lt e).1,h.out0,
  fun i s x hs hx=>(h.row i s x hs hx).to hE (Nat.le_refl _) (fun b h1 _ _=>hS b h1) (fun _ _ _ e=>e)⟩
theorem trows_ended {vs : List Value} {l : List Stk} {i : Nat} {x : Stk} (hx : l[i]? = some x) : trows krow vs (l.set i (endedK x))=trows krow vs l:=by
 unfold trows
 induction l generalizing vs i with
 | nil=>simp
 | cons y l ih =>
  cases vs with
  | nil=>simp
  | cons v vs =>
   cases i with
   | zero=>simp only [List.getElem?_cons_zero,Option.some.injEq] at hx;subst hx;simp [krow,endedK]
   | succ i=>simp only [List.set_cons_succ,List.zip_cons_cons,List.flatMap_cons];rw [ih (by simpa using hx)]
theorem Cloned.cleared {w w5 : World} {B : Nat} {c : Nat→Nat} {sa ss sr s : Value} {vs : List Value} {m : Mon} {i : Nat} {st : Stk} (h : Cloned w B c sa ss sr vs m) (hst : m.stks[i]? = some st) (hs : vs[i]? = some s) (hX : ExtBut (fun b=>s.ownBlock=some b) w w5)
  (hO : Own w5 B 72 1 s st.cells.length (List.replicate st.cells.length (.slice none 0 0))) : OwnK w5 B ss vs (m.stks.set i (endedK st))∧Fq (fun b=>B≤b∧ss.ownBlock≠some b) w5 (fun w=>Nts w sr m.run):=by
 have hc:=(h.row i s st hs hst).2.2
 have hil:=(List.getElem?_eq_some_iff.1 hst).1
 have hno : ∀ b,ss.ownBlock=some b→s.ownBlock≠some b:=fun b e1 e2=>by have h1:=h.out0 b e1;have h2:=hc b e2;omega
 refine ⟨⟨by rw [List.length_set];exact h.len,?_,fun j u y hu hy => ?_⟩,h.run.to hX (fun b h1 _ h2=>by have:=hc b h2;have:=h1.2;omega) (fun b h1 _=>⟨h1.1,fun e=>by have:=h.out0 b e;have:=h1.2;omega⟩)⟩
 ·rw [List.length_set,trows_ended hst]
  exact ExtBut.own h.outer hX hno
 ·by_cases e : j=i
  ·subst e
   rw [hs] at hu
   cases hu
   rw [List.getElem?_set_self hil] at hy
   cases hy
   have hsts : ∀ w'',Sl w'' 1 s st.cells.length (List.replicate st.cells.length (.slice none 0 0))→Sts w'' s (endedK st).cells:=fun w'' hsl=>by
    refine ⟨List.replicate st.cells.length (.slice none 0 0),All2.iff.2 ⟨by simp [endedK],fun k a b ha hb => ?_⟩,?_⟩
    ·have h1:=List.eq_of_mem_replicate (List.mem_of_getElem? ha)
     have h2:=List.eq_of_mem_replicate (List.mem_of_getElem? hb)
     subst h1 h2
     exact Its.nil w''
    ·rw [trows_srow' (by simp [endedK])]
     simpa [endedK] using hsl
   exact (hO.fs.imp hsts).mono fun b hb _=>⟨(hO.lt hb).1,fun e=>hno b e hb⟩
  ·rw [List.getElem?_set_ne (fun e'=>e e'.symm)] at hy
   refine (h.row j u y hu hy).1.to hX (fun b h1 _ h2 => ?_) (fun b h1 _=>⟨h1.1,fun e'=>by have:=h.out0 b e';have:=h1.2;omega⟩)
   have:=hc b h2
   have:=h1.2
   omega
set_option maxRecDepth 100000 in
set_option maxHeartbeats 6400000 in
theorem monitor_End {m : Mon} {sa ss sr : Value} {wS : World} (n : Int) (hA : Als wS sa m.mem.al) (hn : i64B m.mem.next) (hK : Kts wS ss m.stks) (hR : Nts wS sr m.run) :
  Calls Tryz.prog 24 #[.agg #[sa,.int .i64 m.mem.next,ss,sr,.int .i64 m.tag,.int .i64 m.call],.int .i64 n] wS (RetF wS (fun v => .tuple #[v,.int .u8 (endM m n).2.1,.int .i64 (endM m n).2.2]) (endM m n).1):=by
 obtain ⟨aa,ac,rfl,hac,hacm,-⟩:=hA.form
 obtain ⟨ka,kc,rfl,hkc,hkcm,-⟩:=hK.form
 obtain ⟨ra,rc,rfl,hrc,hrcm,-⟩:=hR.form
 unfold maxLen at hacm hkcm hrcm
 have hE0 : Ext wS (World.alloc (World.alloc wS (.cells #[.slice aa m.mem.al.length ac,.int .i64 m.mem.next,.slice ka m.stks.length kc,.slice ra m.run.length rc,.int .i64 m.tag,.int .i64 m.call] 28)) (.cells #[.slice none 0 0,.int .i64 0,.slice none 0 0,.slice none 0 0,.int .i64 0,.int .i64 0] 28)):=by repeat (first | exact Ext.refl _ | refine Ext.alloc ?_ _)
 have bM : Box (World.alloc (World.alloc wS (.cells #[.slice aa m.mem.al.length ac,.int .i64 m.mem.next,.slice ka m.stks.length kc,.slice ra m.run.length rc,.int .i64 m.tag,.int .i64 m.call] 28)) (.cells #[.slice none 0 0,.int .i64 0,.slice none 0 0,.slice none 0 0,.int .i64 0,.int .i64 0] 28)) (wS.heap.size) 28 #[.slice aa m.mem.al.length ac,.int .i64 m.mem.next,.slice ka m.stks.length kc,.slice ra m.run.length rc,.int .i64 m.tag,.int .i64 m.call]:=(by
  have h:=Box.new wS 28 #[.slice aa m.mem.al.length ac,.int .i64 m.mem.next,.slice ka m.stks.length kc,.slice ra m.run.length rc,.int .i64 m.tag,.int .i64 m.call]
  replace h:=Box.ext h ((Ext.refl _).alloc (.cells #[.slice none 0 0,.int .i64 0,.slice none 0 0,.slice none 0 0,.int .i64 0,.int .i64 0] 28))
  exact h)
 have bR : Box (World.alloc (World.alloc wS (.cells #[.slice aa m.mem.al.length ac,.int .i64 m.mem.next,.slice ka m.stks.length kc,.slice ra m.run.length rc,.int .i64 m.tag,.int .i64 m.call] 28)) (.cells #[.slice none 0 0,.int .i64 0,.slice none 0 0,.slice none 0 0,.int .i64 0,.int .i64 0] 28)) (wS.heap.size+1) 28 #[.slice none 0 0,.int .i64 0,.slice none 0 0,.slice none 0 0,.int .i64 0,.int .i64 0]:=(by
  have h:=Box.new (World.alloc wS (.cells #[.slice aa m.mem.al.length ac,.int .i64 m.mem.next,.slice ka m.stks.length kc,.slice ra m.run.length rc,.int .i64 m.tag,.int .i64 m.call] 28)) 28 #[.slice none 0 0,.int .i64 0,.slice none 0 0,.slice none 0 0,.int .i64 0,.int .i64 0]
  simp only [World.size_alloc] at h
  exact h)
 obtain ⟨w0,hw0⟩ : ∃ z,(World.alloc (World.alloc wS (.cells #[.slice aa m.mem.al.length ac,.int .i64 m.mem.next,.slice ka m.stks.length kc,.slice ra m.run.length rc,.int .i64 m.tag,.int .i64 m.call] 28)) (.cells #[.slice none 0 0,.int .i64 0,.slice none 0 0,.slice none 0 0,.int .i64 0,.int .i64 0] 28))=z:=⟨_,rfl⟩
 rw [hw0] at hE0 bM bR
 have hs0 : w0.heap.size=wS.heap.size+2:=by rw [← hw0];simp
 replace hs0:=Lib.hid hs0
 replace hA:=Lib.hid hA
 replace hK:=Lib.hid hK
 replace hR:=Lib.hid hR
 replace hn:=Lib.hid hn
 cases hok : okMon m
 ·skip
  have hce:=Lib.hid (monErr_not hok)
  have hres:=Lib.hid (endM_bad (n:=n) hok)
  clear hok
  go_enter Tryz.func24,Tryz.ntmps24
  obtain ⟨bM_0,bM_1,bM_2,bM_3,bM_4,bM_5,bM_l⟩:=bM.c6
  go_wp2_with fail
  clear bM_0 bM_1 bM_2 bM_3 bM_4 bM_5 bM_l
  refine (mon_Check' (hA.out.ext hE0) hn.out (hK.out.ext hE0) (hR.out.ext hE0)).mono ?_
  rintro e w1 ⟨rfl,hE1⟩
  replace bM:=bM.ext hE1
  replace bR:=bR.ext hE1
  have hF1:=Ext.trans hE0 hE1
  rw [hce.out]
  clear hw0
  obtain ⟨bM_0,bM_1,bM_2,bM_3,bM_4,bM_5,bM_l⟩:=bM.c6
  have bR_0 : World.cell? w1 ⟨wS.heap.size+1,0,none⟩=some (.slice none 0 0):=bR.cell 0
  have bR_1 : World.cell? w1 ⟨wS.heap.size+1,1,none⟩=some (.int .i64 0):=bR.cell 1
  have bR_2 : World.cell? w1 ⟨wS.heap.size+1,2,none⟩=some (.slice none 0 0):=bR.cell 2
  have bR_3 : World.cell? w1 ⟨wS.heap.size+1,3,none⟩=some (.slice none 0 0):=bR.cell 3
  have bR_4 : World.cell? w1 ⟨wS.heap.size+1,4,none⟩=some (.int .i64 0):=bR.cell 4
  have bR_5 : World.cell? w1 ⟨wS.heap.size+1,5,none⟩=some (.int .i64 0):=bR.cell 5
  have bR_f0 : World.frozen? w1 ⟨wS.heap.size+1,0,none⟩=false:=bR.frozen 0
  have bR_f1 : World.frozen? w1 ⟨wS.heap.size+1,1,none⟩=false:=bR.frozen 1
  have bR_f2 : World.frozen? w1 ⟨wS.heap.size+1,2,none⟩=false:=bR.frozen 2
  have bR_f3 : World.frozen? w1 ⟨wS.heap.size+1,3,none⟩=false:=bR.frozen 3
  have bR_f4 : World.frozen? w1 ⟨wS.heap.size+1,4,none⟩=false:=bR.frozen 4
  have bR_f5 : World.frozen? w1 ⟨wS.heap.size+1,5,none⟩=false:=bR.frozen 5
  have bR_l:=bR.lt
  go_wp2
  rw [hres.out]
  have hXe : ExtBut (fun b=>wS.heap.size≤b∧b < wS.heap.size+2) w1 (World.setCell (World.setCell (World.setCell (World.setCell (World.setCell (World.setCell w1 ⟨wS.heap.size+1,0,none⟩ (.slice none 0 0)) ⟨wS.heap.size+1,1,none⟩ (.int .i64 0)) ⟨wS.heap.size+1,2,none⟩ (.slice none 0 0)) ⟨wS.heap.size+1,3,none⟩ (.slice none 0 0)) ⟨wS.heap.size+1,4,none⟩ (.int .i64 0)) ⟨wS.heap.size+1,5,none⟩ (.int .i64 0)):=by (repeat' with_reducible first | exact ExtBut.refl _ _ | refine ExtBut.dr ?_ | refine ExtBut.sc ?_ ?_ | fail) <;> dsimp only <;> omega
  refine bodyPost_ret (v := .tuple #[.agg #[.slice none 0 0,.int .i64 0,.slice none 0 0,.slice none 0 0,.int .i64 0,.int .i64 0],.int .u8 0,.int .i64 8]) (by simp [results,Tryz.f24,go_sem,bR_0,bR_1,bR_2,bR_3,bR_4,bR_5]) rfl ?_
  have hFe:=ExtBut.ext hF1 hXe (fun b h=>h.1)
  exact ⟨_,rfl,FrMon.zero _ _,hFe⟩
 have hMok:=MonOk.of hok
 have hce:=Lib.hid (monErr_of hok)
 have hcl:=Lib.hid hMok.small
 obtain ⟨⟨x,er⟩,her⟩ : ∃ z,endR m.mem n=z:=⟨_,rfl⟩
 by_cases he : er=0
 rotate_left
 ·skip
  have q1 : (er != 0)=true:=by simpa using he
  have hres:=endM_none hok (by rw [her];exact he)
  rw [her] at hres
  replace hres:=Lib.hid hres
  have herh:=Lib.hid her
  clear hok hMok he her
  go_enter Tryz.func24,Tryz.ntmps24
  obtain ⟨bM_0,bM_1,bM_2,bM_3,bM_4,bM_5,bM_l⟩:=bM.c6
  go_wp2_with fail
  clear bM_0 bM_1 bM_2 bM_3 bM_4 bM_5 bM_l
  refine (mon_Check' (hA.out.ext hE0) hn.out (hK.out.ext hE0) (hR.out.ext hE0)).mono ?_
  rintro e w1 ⟨rfl,hE1⟩
  replace bM:=bM.ext hE1
  replace bR:=bR.ext hE1
  have hF1:=Ext.trans hE0 hE1
  rw [hce.out]
  clear hw0
  obtain ⟨bM_0,bM_1,bM_2,bM_3,bM_4,bM_5,bM_l⟩:=bM.c6
  go_wp2_with fail
  clear bM_0 bM_1 bM_2 bM_3 bM_4 bM_5 bM_l
  have hXas:=Lib.hid (by have:=bR.lt;omega : wS.heap.size+2≤w1.heap.size)
  refine (allocs_End n (hA.out.ext hF1) hn.out).mono ?_
  rintro e w2 ⟨v,rfl,fM,hE2⟩
  replace bM:=bM.ext hE2
  replace bR:=bR.ext hE2
  have hF2:=Ext.trans hF1 hE2
  rw [herh.out] at fM ⊢
  obtain ⟨sx,rfl,hx⟩:=FrM.fs fM
  clear fM
  have hv:=hx.read.form
  obtain ⟨xa,xc,rfl,-⟩:=hv
  dsimp only at hx ⊢
  replace hx:=Lib.hid hx
  have hXa:=Lib.hid (ExtBut.refl (fun b=>wS.heap.size≤b∧b < wS.heap.size+2) w2)
  obtain ⟨bM_0,bM_1,bM_2,bM_3,bM_4,bM_5,bM_l⟩:=bM.c6
  go_upto_region 6 with fail
  clear bM_0 bM_1 bM_2 bM_3 bM_4 bM_5 bM_l
  have szbQ:=Lib.hid (by have:=bR.lt;omega : wS.heap.size+2≤w2.heap.size)
  have bQ:=Box.new w2 24 #[.slice xa x.al.length xc,.int .i64 x.next]
  have hzb0 : (World.alloc w2 (.cells #[.slice xa x.al.length xc,.int .i64 x.next] 24)).heap.size=w2.heap.size+1:=by rw [World.size_alloc]
  have hx3 : Ext w2 (World.alloc w2 (.cells #[.slice xa x.al.length xc,.int .i64 x.next] 24)):=(Ext.refl _).alloc _
  obtain ⟨w3b,hw3⟩ : ∃ z,World.alloc w2 (.cells #[.slice xa x.al.length xc,.int .i64 x.next] 24)=z:=⟨_,rfl⟩
  rw [hw3] at bQ hx3 hzb0 ⊢
  clear hw3
  replace bM:=bM.ext hx3
  replace bR:=bR.ext hx3
  replace hXa:=Lib.hid (ExtBut.trans hXa.out (ExtBut.of_ext hx3))
  have hF4:=Ext.trans hF2 hx3
  clear hzb0
  obtain ⟨bM_0,bM_1,bM_2,bM_3,bM_4,bM_5,bM_l⟩:=bM.c6
  have bR_0 : World.cell? w3b ⟨wS.heap.size+1,0,none⟩=some (.slice none 0 0):=bR.cell 0
  have bR_1 : World.cell? w3b ⟨wS.heap.size+1,1,none⟩=some (.int .i64 0):=bR.cell 1
  have bR_2 : World.cell? w3b ⟨wS.heap.size+1,2,none⟩=some (.slice none 0 0):=bR.cell 2
  have bR_3 : World.cell? w3b ⟨wS.heap.size+1,3,none⟩=some (.slice none 0 0):=bR.cell 3
  have bR_4 : World.cell? w3b ⟨wS.heap.size+1,4,none⟩=some (.int .i64 0):=bR.cell 4
  have bR_5 : World.cell? w3b ⟨wS.heap.size+1,5,none⟩=some (.int .i64 0):=bR.cell 5
  have bR_f0 : World.frozen? w3b ⟨wS.heap.size+1,0,none⟩=false:=bR.frozen 0
  have bR_f1 : World.frozen? w3b ⟨wS.heap.size+1,1,none⟩=false:=bR.frozen 1
  have bR_f2 : World.frozen? w3b ⟨wS.heap.size+1,2,none⟩=false:=bR.frozen 2
  have bR_f3 : World.frozen? w3b ⟨wS.heap.size+1,3,none⟩=false:=bR.frozen 3
  have bR_f4 : World.frozen? w3b ⟨wS.heap.size+1,4,none⟩=false:=bR.frozen 4
  have bR_f5 : World.frozen? w3b ⟨wS.heap.size+1,5,none⟩=false:=bR.frozen 5
  have bR_l:=bR.lt
  go_wp2
  rw [hres.out]
  have hXe : ExtBut (fun b=>wS.heap.size≤b∧b < wS.heap.size+2) w3b (World.setCell (World.setCell (World.setCell (World.setCell (World.setCell (World.setCell w3b ⟨wS.heap.size+1,0,none⟩ (.slice none 0 0)) ⟨wS.heap.size+1,1,none⟩ (.int .i64 0)) ⟨wS.heap.size+1,2,none⟩ (.slice none 0 0)) ⟨wS.heap.size+1,3,none⟩ (.slice none 0 0)) ⟨wS.heap.size+1,4,none⟩ (.int .i64 0)) ⟨wS.heap.size+1,5,none⟩ (.int .i64 0)):=by (repeat' with_reducible first | exact ExtBut.refl _ _ | refine ExtBut.dr ?_ | refine ExtBut.sc ?_ ?_ | fail) <;> dsimp only <;> omega
  refine bodyPost_ret (v := .tuple #[.agg #[.slice none 0 0,.int .i64 0,.slice none 0 0,.slice none 0 0,.int .i64 0,.int .i64 0],.int .u8 0,.int .i64 er]) (by simp [results,Tryz.f24,go_sem,bR_0,bR_1,bR_2,bR_3,bR_4,bR_5]) rfl ?_
  have hFe:=ExtBut.ext hF4 hXe (fun b h=>h.1)
  have hXae:=ExtBut.trans hXa.out hXe
  exact ⟨_,rfl,FrMon.zero _ _,hFe⟩
 subst he
 have herh:=Lib.hid her
 obtain ⟨i,al,hat,hal,hlv,hxe⟩:=endR_zero hMok.memOk her
 have hil:=(List.getElem?_eq_some_iff.1 hal).1
 obtain ⟨st,al',hst,hal',hrow⟩:=hMok.stk hil
 obtain ⟨⟨why,e4⟩,hd⟩ : ∃ z,endR34 ⟨st.num,st.cells⟩ m.run=z:=⟨_,rfl⟩
 have hd' : endR34 st m.run=(why,e4):=hd
 have hres:=endM_live hok hat hal hlv hst hd'
 have hi2 : i < m.stks.length:=(List.getElem?_eq_some_iff.1 hst).1
 have hi0 : (0 : Int)≤(i : Int):=by omega
 have hi1 : (i : Int) < (m.stks.length : Int):=by omega
 have hatm:=Lib.hid hat
 have hsth:=Lib.hid hst
 have hcs:=okK_bounds (rowM_parts hrow).2.2.1
 have hcl1 : Hid (1≤st.cells.length∧st.cells.length≤2):=Hid.mk (by have h:=(rowM_parts hrow).2.2.1;unfold okK at h;simp only [Bool.and_eq_true,decide_eq_true_eq] at h;omega)
 obtain ⟨kb,ko,ks,rfl,hkb,k0,k1,hks⟩:=hK.out.cell hst
 have hv:=hks.form
 obtain ⟨sa',sc',rfl,-⟩:=hv
 have hdh:=Lib.hid hd
 have hxeh:=Lib.hid hxe
 have hMokh:=Lib.hid hMok
 replace hks:=Lib.hid hks
 clear hat hal hlv hst hal' hrow hd hd' hcs hxe hil hkb her
 by_cases hw : why=0
 rotate_left
 ·skip
  have q2 : (why != 0)=true:=by simpa using hw
  rw [if_neg hw] at hres
  replace hres:=Lib.hid hres
  clear hw hok hMok
  go_enter Tryz.func24,Tryz.ntmps24
  obtain ⟨bM_0,bM_1,bM_2,bM_3,bM_4,bM_5,bM_l⟩:=bM.c6
  go_wp2_with fail
  clear bM_0 bM_1 bM_2 bM_3 bM_4 bM_5 bM_l
  refine (mon_Check' (hA.out.ext hE0) hn.out (hK.out.ext hE0) (hR.out.ext hE0)).mono ?_
  rintro e w1 ⟨rfl,hE1⟩
  replace bM:=bM.ext hE1
  replace bR:=bR.ext hE1
  have hF1:=Ext.trans hE0 hE1
  rw [hce.out]
  clear hw0
  obtain ⟨bM_0,bM_1,bM_2,bM_3,bM_4,bM_5,bM_l⟩:=bM.c6
  go_wp2_with fail
  clear bM_0 bM_1 bM_2 bM_3 bM_4 bM_5 bM_l
  have hXas:=Lib.hid (by have:=bR.lt;omega : wS.heap.size+2≤w1.heap.size)
  refine (allocs_End n (hA.out.ext hF1) hn.out).mono ?_
  rintro e w2 ⟨v,rfl,fM,hE2⟩
  replace bM:=bM.ext hE2
  replace bR:=bR.ext hE2
  have hF2:=Ext.trans hF1 hE2
  rw [herh.out] at fM ⊢
  obtain ⟨sx,rfl,hx⟩:=FrM.fs fM
  clear fM
  have hv:=hx.read.form
  obtain ⟨xa,xc,rfl,-⟩:=hv
  dsimp only at hx ⊢
  replace hx:=Lib.hid hx
  have hXa:=Lib.hid (ExtBut.refl (fun b=>wS.heap.size≤b∧b < wS.heap.size+2) w2)
  obtain ⟨bM_0,bM_1,bM_2,bM_3,bM_4,bM_5,bM_l⟩:=bM.c6
  go_wp2_with fail
  clear bM_0 bM_1 bM_2 bM_3 bM_4 bM_5 bM_l
  have szbQ:=Lib.hid (by have:=bR.lt;omega : wS.heap.size+2≤w2.heap.size)
  have bQ:=Box.new w2 24 #[.slice xa x.al.length xc,.int .i64 x.next]
  have hzb0 : (World.alloc w2 (.cells #[.slice xa x.al.length xc,.int .i64 x.next] 24)).heap.size=w2.heap.size+1:=by rw [World.size_alloc]
  have hx3 : Ext w2 (World.alloc w2 (.cells #[.slice xa x.al.length xc,.int .i64 x.next] 24)):=(Ext.refl _).alloc _
  obtain ⟨w3b,hw3⟩ : ∃ z,World.alloc w2 (.cells #[.slice xa x.al.length xc,.int .i64 x.next] 24)=z:=⟨_,rfl⟩
  rw [hw3] at bQ hx3 hzb0 ⊢
  clear hw3
  replace bM:=bM.ext hx3
  replace bR:=bR.ext hx3
  replace hXa:=Lib.hid (ExtBut.trans hXa.out (ExtBut.of_ext hx3))
  have hF4:=Ext.trans hF2 hx3
  clear hzb0
  refine (monitor_at n hMokh.out (hK.out.ext hF4)).mono ?_
  rintro e w5 ⟨rfl,hE5⟩
  replace bM:=bM.ext hE5
  replace bR:=bR.ext hE5
  replace bQ:=bQ.ext hE5
  replace hXa:=Lib.hid (ExtBut.trans hXa.out (ExtBut.of_ext hE5))
  have hF5:=Ext.trans hF4 hE5
  rw [hatm.out]
  dsimp only [ixK]
  go_upto_region 8 with fail
  have m2 : World.cell? w5 ⟨wS.heap.size,2,none⟩=some (.slice (some ⟨kb,ko,none⟩) m.stks.length kc):=bM.cell 2
  have m3 : World.cell? w5 ⟨wS.heap.size,3,none⟩=some (.slice ra m.run.length rc):=bM.cell 3
  have r0:=Ext.cell hF5 k0
  have r1:=Ext.cell hF5 k1
  have hKc:=Lib.hid (hks.out.ext hF5)
  have hRc:=Lib.hid (hR.out.ext hF5)
  refine wp_region_go (L:=[Pr.eq (.pointer (some ⟨wS.heap.size,2,none⟩)),Pr.eq (.slice (some ⟨kb,ko,none⟩) m.stks.length kc),Pr.eq (.int .i64 (i : Int)),Pr.eq (.pointer (some ⟨kb,ko+i * 2,none⟩)),Pr.eq (.agg #[.int .i64 st.num,.slice sa' st.cells.length sc']),Pr.eq (.pointer (some ⟨wS.heap.size,3,none⟩)),Pr.eq (.slice ra m.run.length rc),Pr.eq (.tuple #[.int .u8 why,.int .i64 e4]),Pr.eq (.tuple #[.int .u8 why,.int .i64 e4]),Pr.eq (.int .u8 why),Pr.eq (.int .i64 e4),Pr.eq (.int .u8 why),Pr.eq (.int .i64 e4)]) (by kernel_rfl) (by kernel_rfl) ?_ ?_
  ·refine ⟨?_,?_,?_,?_,?_,?_,?_,?_,?_,?_,?_,?_,?_,trivial⟩
   ·intro a w hE hd ho
    refine .inl ⟨rfl,?_⟩
    intro Kq hKq
    have hF : Ext w5 w:=Ext.trans ((Ext.refl _).drew) hE
    have e2 : a.eval (.tmp 2) = .pointer (some ⟨wS.heap.size,0,none⟩):=ho 2 (by kernel_rfl)
    rw [eval_tmp] at e2
    clear m2 m3 r0 r1
    clear hd ho
    replace hKq:=Lib.hid hKq
    go_simp
    exact hKq.out _ _ rfl (Ext.refl _)
   ·intro a w hE hd ho
    refine .inl ⟨rfl,?_⟩
    intro Kq hKq
    have hF : Ext w5 w:=Ext.trans ((Ext.refl _).drew) hE
    have e34 : a.eval (.tmp 34) = .pointer (some ⟨wS.heap.size,2,none⟩):=hd 0 (by kernel_rfl)
    rw [eval_tmp] at e34
    have m2w:=Ext.cell hF m2
    clear m2 m3 r0 r1
    clear hd ho
    replace hKq:=Lib.hid hKq
    go_simp
    exact hKq.out _ _ rfl (Ext.refl _)
   ·intro a w hE hd ho
    refine .inl ⟨rfl,?_⟩
    intro Kq hKq
    have hF : Ext w5 w:=Ext.trans ((Ext.refl _).drew) hE
    have e10 : a.eval (.tmp 10) = .int .i64 (i : Int):=ho 10 (by kernel_rfl)
    rw [eval_tmp] at e10
    clear m2 m3 r0 r1
    clear hd ho
    replace hKq:=Lib.hid hKq
    go_simp
    exact hKq.out _ _ rfl (Ext.refl _)
   ·intro a w hE hd ho
    refine .inl ⟨rfl,?_⟩
    intro Kq hKq
    have hF : Ext w5 w:=Ext.trans ((Ext.refl _).drew) hE
    have e35 : a.eval (.tmp 35) = .slice (some ⟨kb,ko,none⟩) m.stks.length kc:=hd 1 (by kernel_rfl)
    rw [eval_tmp] at e35
    have e36 : a.eval (.tmp 36) = .int .i64 (i : Int):=hd 2 (by kernel_rfl)
    rw [eval_tmp] at e36
    clear m2 m3 r0 r1
    clear hd ho
    replace hKq:=Lib.hid hKq
    go_simp
    exact hKq.out _ _ rfl (Ext.refl _)
   ·intro a w hE hd ho
    refine .inl ⟨rfl,?_⟩
    intro Kq hKq
    have hF : Ext w5 w:=Ext.trans ((Ext.refl _).drew) hE
    have e37 : a.eval (.tmp 37) = .pointer (some ⟨kb,ko+i * 2,none⟩):=hd 3 (by kernel_rfl)
    rw [eval_tmp] at e37
    have r0w:=Ext.cell hF r0
    have r1w:=Ext.cell hF r1
    clear m2 m3 r0 r1
    clear hd ho
    replace hKq:=Lib.hid hKq
    go_simp
    exact hKq.out _ _ rfl (Ext.refl _)
   ·intro a w hE hd ho
    refine .inl ⟨rfl,?_⟩
    intro Kq hKq
    have hF : Ext w5 w:=Ext.trans ((Ext.refl _).drew) hE
    have e2 : a.eval (.tmp 2) = .pointer (some ⟨wS.heap.size,0,none⟩):=ho 2 (by kernel_rfl)
    rw [eval_tmp] at e2
    clear m2 m3 r0 r1
    clear hd ho
    replace hKq:=Lib.hid hKq
    go_simp
    exact hKq.out _ _ rfl (Ext.refl _)
   ·intro a w hE hd ho
    refine .inl ⟨rfl,?_⟩
    intro Kq hKq
    have hF : Ext w5 w:=Ext.trans ((Ext.refl _).drew) hE
    have e39 : a.eval (.tmp 39) = .pointer (some ⟨wS.heap.size,3,none⟩):=hd 5 (by kernel_rfl)
    rw [eval_tmp] at e39
    have m3w:=Ext.cell hF m3
    clear m2 m3 r0 r1
    clear hd ho
    replace hKq:=Lib.hid hKq
    go_simp
    exact hKq.out _ _ rfl (Ext.refl _)
   ·intro a w hE hd ho
    refine .inl ⟨rfl,?_⟩
    intro Kq hKq
    have hF : Ext w5 w:=Ext.trans ((Ext.refl _).drew) hE
    have e38 : a.eval (.tmp 38) = .agg #[.int .i64 st.num,.slice sa' st.cells.length sc']:=hd 4 (by kernel_rfl)
    rw [eval_tmp] at e38
    have e40 : a.eval (.tmp 40) = .slice ra m.run.length rc:=hd 6 (by kernel_rfl)
    rw [eval_tmp] at e40
    clear m2 m3 r0 r1
    clear hd ho
    replace hKq:=Lib.hid hKq
    go_simp
    refine (dealloc_End (num:=st.num) (hKc.out.ext hF) (hRc.out.ext hF)).mono ?_
    rintro e wz ⟨rfl,hZ⟩
    rw [hdh.out]
    go_simp
    exact hKq.out _ _ rfl hZ
   ·intro a w hE hd ho
    refine .inl ⟨rfl,?_⟩
    intro Kq hKq
    have hF : Ext w5 w:=Ext.trans ((Ext.refl _).drew) hE
    have e41 : a.eval (.tmp 41) = .tuple #[.int .u8 why,.int .i64 e4]:=hd 7 (by kernel_rfl)
    rw [eval_tmp] at e41
    clear m2 m3 r0 r1
    clear hd ho
    replace hKq:=Lib.hid hKq
    go_simp
    exact hKq.out _ _ rfl (Ext.refl _)
   ·intro a w hE hd ho
    refine .inl ⟨rfl,?_⟩
    intro Kq hKq
    have hF : Ext w5 w:=Ext.trans ((Ext.refl _).drew) hE
    have e33 : a.eval (.tmp 33) = .tuple #[.int .u8 why,.int .i64 e4]:=hd 8 (by kernel_rfl)
    rw [eval_tmp] at e33
    clear m2 m3 r0 r1
    clear hd ho
    replace hKq:=Lib.hid hKq
    go_simp
    exact hKq.out _ _ rfl (Ext.refl _)
   ·intro a w hE hd ho
    refine .inl ⟨rfl,?_⟩
    intro Kq hKq
    have hF : Ext w5 w:=Ext.trans ((Ext.refl _).drew) hE
    have e33 : a.eval (.tmp 33) = .tuple #[.int .u8 why,.int .i64 e4]:=hd 8 (by kernel_rfl)
    rw [eval_tmp] at e33
    clear m2 m3 r0 r1
    clear hd ho
    replace hKq:=Lib.hid hKq
    go_simp
    exact hKq.out _ _ rfl (Ext.refl _)
   ·intro a w hE hd ho
    refine .inl ⟨rfl,?_⟩
    intro Kq hKq
    have hF : Ext w5 w:=Ext.trans ((Ext.refl _).drew) hE
    have e42 : a.eval (.tmp 42) = .int .u8 why:=hd 9 (by kernel_rfl)
    rw [eval_tmp] at e42
    clear m2 m3 r0 r1
    clear hd ho
    replace hKq:=Lib.hid hKq
    go_simp
    exact hKq.out _ _ rfl (Ext.refl _)
   ·intro a w hE hd ho
    refine .inl ⟨rfl,?_⟩
    intro Kq hKq
    have hF : Ext w5 w:=Ext.trans ((Ext.refl _).drew) hE
    have e43 : a.eval (.tmp 43) = .int .i64 e4:=hd 10 (by kernel_rfl)
    rw [eval_tmp] at e43
    clear m2 m3 r0 r1
    clear hd ho
    replace hKq:=Lib.hid hKq
    go_simp
    exact hKq.out _ _ rfl (Ext.refl _)
  ·intro vals wq hE hv
   have hF : Ext w5 wq:=Ext.trans ((Ext.refl _).drew) hE
   have e11 : vals 11 = .int .u8 why:=hv 11 (by decide)
   have e12 : vals 12 = .int .i64 e4:=hv 12 (by decide)
   clear hv hE m2 m3 r0 r1
   simp only [putAll]
   go_simp
   try rw [e11,e12]
   clear e11 e12
   replace bM:=bM.ext hF
   replace bR:=bR.ext hF
   replace bQ:=bQ.ext hF
   replace hXa:=Lib.hid (ExtBut.trans hXa.out (ExtBut.of_ext hF))
   have hF6:=Ext.trans hF5 hF
   obtain ⟨bM_0,bM_1,bM_2,bM_3,bM_4,bM_5,bM_l⟩:=bM.c6
   have bR_0 : World.cell? wq ⟨wS.heap.size+1,0,none⟩=some (.slice none 0 0):=bR.cell 0
   have bR_1 : World.cell? wq ⟨wS.heap.size+1,1,none⟩=some (.int .i64 0):=bR.cell 1
   have bR_2 : World.cell? wq ⟨wS.heap.size+1,2,none⟩=some (.slice none 0 0):=bR.cell 2
   have bR_3 : World.cell? wq ⟨wS.heap.size+1,3,none⟩=some (.slice none 0 0):=bR.cell 3
   have bR_4 : World.cell? wq ⟨wS.heap.size+1,4,none⟩=some (.int .i64 0):=bR.cell 4
   have bR_5 : World.cell? wq ⟨wS.heap.size+1,5,none⟩=some (.int .i64 0):=bR.cell 5
   have bR_f0 : World.frozen? wq ⟨wS.heap.size+1,0,none⟩=false:=bR.frozen 0
   have bR_f1 : World.frozen? wq ⟨wS.heap.size+1,1,none⟩=false:=bR.frozen 1
   have bR_f2 : World.frozen? wq ⟨wS.heap.size+1,2,none⟩=false:=bR.frozen 2
   have bR_f3 : World.frozen? wq ⟨wS.heap.size+1,3,none⟩=false:=bR.frozen 3
   have bR_f4 : World.frozen? wq ⟨wS.heap.size+1,4,none⟩=false:=bR.frozen 4
   have bR_f5 : World.frozen? wq ⟨wS.heap.size+1,5,none⟩=false:=bR.frozen 5
   have bR_l:=bR.lt
   go_wp2
   rw [hres.out]
   have hXe : ExtBut (fun b=>wS.heap.size≤b∧b < wS.heap.size+2) wq (World.setCell (World.setCell (World.setCell (World.setCell (World.setCell (World.setCell wq ⟨wS.heap.size+1,0,none⟩ (.slice none 0 0)) ⟨wS.heap.size+1,1,none⟩ (.int .i64 0)) ⟨wS.heap.size+1,2,none⟩ (.slice none 0 0)) ⟨wS.heap.size+1,3,none⟩ (.slice none 0 0)) ⟨wS.heap.size+1,4,none⟩ (.int .i64 0)) ⟨wS.heap.size+1,5,none⟩ (.int .i64 0)):=by (repeat' with_reducible first | exact ExtBut.refl _ _ | refine ExtBut.dr ?_ | refine ExtBut.sc ?_ ?_ | fail) <;> dsimp only <;> omega
   refine bodyPost_ret (v := .tuple #[.agg #[.slice none 0 0,.int .i64 0,.slice none 0 0,.slice none 0 0,.int .i64 0,.int .i64 0],.int .u8 why,.int .i64 0]) (by simp [results,Tryz.f24,go_sem,bR_0,bR_1,bR_2,bR_3,bR_4,bR_5]) rfl ?_
   have hFe:=ExtBut.ext hF6 hXe (fun b h=>h.1)
   have hXae:=ExtBut.trans hXa.out hXe
   exact ⟨_,rfl,FrMon.zero _ _,hFe⟩
 subst hw
 rw [if_pos rfl] at hres
 replace hres:=Lib.hid hres
 clear hok hMok
 go_enter Tryz.func24,Tryz.ntmps24
 obtain ⟨bM_0,bM_1,bM_2,bM_3,bM_4,bM_5,bM_l⟩:=bM.c6
 go_wp2_with fail
 clear bM_0 bM_1 bM_2 bM_3 bM_4 bM_5 bM_l
 refine (mon_Check' (hA.out.ext hE0) hn.out (hK.out.ext hE0) (hR.out.ext hE0)).mono ?_
 rintro e w1 ⟨rfl,hE1⟩
 replace bM:=bM.ext hE1
 replace bR:=bR.ext hE1
 have hF1:=Ext.trans hE0 hE1
 rw [hce.out]
 clear hw0
 obtain ⟨bM_0,bM_1,bM_2,bM_3,bM_4,bM_5,bM_l⟩:=bM.c6
 go_wp2_with fail
 clear bM_0 bM_1 bM_2 bM_3 bM_4 bM_5 bM_l
 have hXas:=Lib.hid (by have:=bR.lt;omega : wS.heap.size+2≤w1.heap.size)
 refine (allocs_End n (hA.out.ext hF1) hn.out).mono ?_
 rintro e w2 ⟨v,rfl,fM,hE2⟩
 replace bM:=bM.ext hE2
 replace bR:=bR.ext hE2
 have hF2:=Ext.trans hF1 hE2
 rw [herh.out] at fM ⊢
 obtain ⟨sx,rfl,hx⟩:=FrM.fs fM
 clear fM
 have hv:=hx.read.form
 obtain ⟨xa,xc,rfl,-⟩:=hv
 dsimp only at hx ⊢
 replace hx:=Lib.hid hx
 have hXa:=Lib.hid (ExtBut.refl (fun b=>wS.heap.size≤b∧b < wS.heap.size+2) w2)
 obtain ⟨bM_0,bM_1,bM_2,bM_3,bM_4,bM_5,bM_l⟩:=bM.c6
 go_wp2_with fail
 clear bM_0 bM_1 bM_2 bM_3 bM_4 bM_5 bM_l
 have szbQ:=Lib.hid (by have:=bR.lt;omega : wS.heap.size+2≤w2.heap.size)
 have bQ:=Box.new w2 24 #[.slice xa x.al.length xc,.int .i64 x.next]
 have hzb0 : (World.alloc w2 (.cells #[.slice xa x.al.length xc,.int .i64 x.next] 24)).heap.size=w2.heap.size+1:=by rw [World.size_alloc]
 have hx3 : Ext w2 (World.alloc w2 (.cells #[.slice xa x.al.length xc,.int .i64 x.next] 24)):=(Ext.refl _).alloc _
 obtain ⟨w3b,hw3⟩ : ∃ z,World.alloc w2 (.cells #[.slice xa x.al.length xc,.int .i64 x.next] 24)=z:=⟨_,rfl⟩
 rw [hw3] at bQ hx3 hzb0 ⊢
 clear hw3
 replace bM:=bM.ext hx3
 replace bR:=bR.ext hx3
 replace hXa:=Lib.hid (ExtBut.trans hXa.out (ExtBut.of_ext hx3))
 have hF4:=Ext.trans hF2 hx3
 clear hzb0
 refine (monitor_at n hMokh.out (hK.out.ext hF4)).mono ?_
 rintro e w5 ⟨rfl,hE5⟩
 replace bM:=bM.ext hE5
 replace bR:=bR.ext hE5
 replace bQ:=bQ.ext hE5
 replace hXa:=Lib.hid (ExtBut.trans hXa.out (ExtBut.of_ext hE5))
 have hF5:=Ext.trans hF4 hE5
 rw [hatm.out]
 dsimp only [ixK]
 go_upto_region 8 with fail
 have m2 : World.cell? w5 ⟨wS.heap.size,2,none⟩=some (.slice (some ⟨kb,ko,none⟩) m.stks.length kc):=bM.cell 2
 have m3 : World.cell? w5 ⟨wS.heap.size,3,none⟩=some (.slice ra m.run.length rc):=bM.cell 3
 have r0:=Ext.cell hF5 k0
 have r1:=Ext.cell hF5 k1
 have hKc:=Lib.hid (hks.out.ext hF5)
 have hRc:=Lib.hid (hR.out.ext hF5)
 refine wp_region_go (L:=[Pr.eq (.pointer (some ⟨wS.heap.size,2,none⟩)),Pr.eq (.slice (some ⟨kb,ko,none⟩) m.stks.length kc),Pr.eq (.int .i64 (i : Int)),Pr.eq (.pointer (some ⟨kb,ko+i * 2,none⟩)),Pr.eq (.agg #[.int .i64 st.num,.slice sa' st.cells.length sc']),Pr.eq (.pointer (some ⟨wS.heap.size,3,none⟩)),Pr.eq (.slice ra m.run.length rc),Pr.eq (.tuple #[.int .u8 0,.int .i64 e4]),Pr.eq (.tuple #[.int .u8 0,.int .i64 e4]),Pr.eq (.int .u8 0),Pr.eq (.int .i64 e4),Pr.eq (.int .u8 0),Pr.eq (.int .i64 e4)]) (by kernel_rfl) (by kernel_rfl) ?_ ?_
 ·refine ⟨?_,?_,?_,?_,?_,?_,?_,?_,?_,?_,?_,?_,?_,trivial⟩
  ·intro a w hE hd ho
   refine .inl ⟨rfl,?_⟩
   intro Kq hKq
   have hF : Ext w5 w:=Ext.trans ((Ext.refl _).drew) hE
   have e2 : a.eval (.tmp 2) = .pointer (some ⟨wS.heap.size,0,none⟩):=ho 2 (by kernel_rfl)
   rw [eval_tmp] at e2
   clear m2 m3 r0 r1
   clear hd ho
   replace hKq:=Lib.hid hKq
   go_simp
   exact hKq.out _ _ rfl (Ext.refl _)
  ·intro a w hE hd ho
   refine .inl ⟨rfl,?_⟩
   intro Kq hKq
   have hF : Ext w5 w:=Ext.trans ((Ext.refl _).drew) hE
   have e34 : a.eval (.tmp 34) = .pointer (some ⟨wS.heap.size,2,none⟩):=hd 0 (by kernel_rfl)
   rw [eval_tmp] at e34
   have m2w:=Ext.cell hF m2
   clear m2 m3 r0 r1
   clear hd ho
   replace hKq:=Lib.hid hKq
   go_simp
   exact hKq.out _ _ rfl (Ext.refl _)
  ·intro a w hE hd ho
   refine .inl ⟨rfl,?_⟩
   intro Kq hKq
   have hF : Ext w5 w:=Ext.trans ((Ext.refl _).drew) hE
   have e10 : a.eval (.tmp 10) = .int .i64 (i : Int):=ho 10 (by kernel_rfl)
   rw [eval_tmp] at e10
   clear m2 m3 r0 r1
   clear hd ho
   replace hKq:=Lib.hid hKq
   go_simp
   exact hKq.out _ _ rfl (Ext.refl _)
  ·intro a w hE hd ho
   refine .inl ⟨rfl,?_⟩
   intro Kq hKq
   have hF : Ext w5 w:=Ext.trans ((Ext.refl _).drew) hE
   have e35 : a.eval (.tmp 35) = .slice (some ⟨kb,ko,none⟩) m.stks.length kc:=hd 1 (by kernel_rfl)
   rw [eval_tmp] at e35
   have e36 : a.eval (.tmp 36) = .int .i64 (i : Int):=hd 2 (by kernel_rfl)
   rw [eval_tmp] at e36
   clear m2 m3 r0 r1
   clear hd ho
   replace hKq:=Lib.hid hKq
   go_simp
   exact hKq.out _ _ rfl (Ext.refl _)
  ·intro a w hE hd ho
   refine .inl ⟨rfl,?_⟩
   intro Kq hKq
   have hF : Ext w5 w:=Ext.trans ((Ext.refl _).drew) hE
   have e37 : a.eval (.tmp 37) = .pointer (some ⟨kb,ko+i * 2,none⟩):=hd 3 (by kernel_rfl)
   rw [eval_tmp] at e37
   have r0w:=Ext.cell hF r0
   have r1w:=Ext.cell hF r1
   clear m2 m3 r0 r1
   clear hd ho
   replace hKq:=Lib.hid hKq
   go_simp
   exact hKq.out _ _ rfl (Ext.refl _)
  ·intro a w hE hd ho
   refine .inl ⟨rfl,?_⟩
   intro Kq hKq
   have hF : Ext w5 w:=Ext.trans ((Ext.refl _).drew) hE
   have e2 : a.eval (.tmp 2) = .pointer (some ⟨wS.heap.size,0,none⟩):=ho 2 (by kernel_rfl)
   rw [eval_tmp] at e2
   clear m2 m3 r0 r1
   clear hd ho
   replace hKq:=Lib.hid hKq
   go_simp
   exact hKq.out _ _ rfl (Ext.refl _)
  ·intro a w hE hd ho
   refine .inl ⟨rfl,?_⟩
   intro Kq hKq
   have hF : Ext w5 w:=Ext.trans ((Ext.refl _).drew) hE
   have e39 : a.eval (.tmp 39) = .pointer (some ⟨wS.heap.size,3,none⟩):=hd 5 (by kernel_rfl)
   rw [eval_tmp] at e39
   have m3w:=Ext.cell hF m3
   clear m2 m3 r0 r1
   clear hd ho
   replace hKq:=Lib.hid hKq
   go_simp
   exact hKq.out _ _ rfl (Ext.refl _)
  ·intro a w hE hd ho
   refine .inl ⟨rfl,?_⟩
   intro Kq hKq
   have hF : Ext w5 w:=Ext.trans ((Ext.refl _).drew) hE
   have e38 : a.eval (.tmp 38) = .agg #[.int .i64 st.num,.slice sa' st.cells.length sc']:=hd 4 (by kernel_rfl)
   rw [eval_tmp] at e38
   have e40 : a.eval (.tmp 40) = .slice ra m.run.length rc:=hd 6 (by kernel_rfl)
   rw [eval_tmp] at e40
   clear m2 m3 r0 r1
   clear hd ho
   replace hKq:=Lib.hid hKq
   go_simp
   refine (dealloc_End (num:=st.num) (hKc.out.ext hF) (hRc.out.ext hF)).mono ?_
   rintro e wz ⟨rfl,hZ⟩
   rw [hdh.out]
   go_simp
   exact hKq.out _ _ rfl hZ
  ·intro a w hE hd ho
   refine .inl ⟨rfl,?_⟩
   intro Kq hKq
   have hF : Ext w5 w:=Ext.trans ((Ext.refl _).drew) hE
   have e41 : a.eval (.tmp 41) = .tuple #[.int .u8 0,.int .i64 e4]:=hd 7 (by kernel_rfl)
   rw [eval_tmp] at e41
   clear m2 m3 r0 r1
   clear hd ho
   replace hKq:=Lib.hid hKq
   go_simp
   exact hKq.out _ _ rfl (Ext.refl _)
  ·intro a w hE hd ho
   refine .inl ⟨rfl,?_⟩
   intro Kq hKq
   have hF : Ext w5 w:=Ext.trans ((Ext.refl _).drew) hE
   have e33 : a.eval (.tmp 33) = .tuple #[.int .u8 0,.int .i64 e4]:=hd 8 (by kernel_rfl)
   rw [eval_tmp] at e33
   clear m2 m3 r0 r1
   clear hd ho
   replace hKq:=Lib.hid hKq
   go_simp
   exact hKq.out _ _ rfl (Ext.refl _)
  ·intro a w hE hd ho
   refine .inl ⟨rfl,?_⟩
   intro Kq hKq
   have hF : Ext w5 w:=Ext.trans ((Ext.refl _).drew) hE
   have e33 : a.eval (.tmp 33) = .tuple #[.int .u8 0,.int .i64 e4]:=hd 8 (by kernel_rfl)
   rw [eval_tmp] at e33
   clear m2 m3 r0 r1
   clear hd ho
   replace hKq:=Lib.hid hKq
   go_simp
   exact hKq.out _ _ rfl (Ext.refl _)
  ·intro a w hE hd ho
   refine .inl ⟨rfl,?_⟩
   intro Kq hKq
   have hF : Ext w5 w:=Ext.trans ((Ext.refl _).drew) hE
   have e42 : a.eval (.tmp 42) = .int .u8 0:=hd 9 (by kernel_rfl)
   rw [eval_tmp] at e42
   clear m2 m3 r0 r1
   clear hd ho
   replace hKq:=Lib.hid hKq
   go_simp
   exact hKq.out _ _ rfl (Ext.refl _)
  ·intro a w hE hd ho
   refine .inl ⟨rfl,?_⟩
   intro Kq hKq
   have hF : Ext w5 w:=Ext.trans ((Ext.refl _).drew) hE
   have e43 : a.eval (.tmp 43) = .int .i64 e4:=hd 10 (by kernel_rfl)
   rw [eval_tmp] at e43
   clear m2 m3 r0 r1
   clear hd ho
   replace hKq:=Lib.hid hKq
   go_simp
   exact hKq.out _ _ rfl (Ext.refl _)
 ·intro vals wq hE hv
  have hF : Ext w5 wq:=Ext.trans ((Ext.refl _).drew) hE
  have e11 : vals 11 = .int .u8 0:=hv 11 (by decide)
  have e12 : vals 12 = .int .i64 e4:=hv 12 (by decide)
  clear hv hE m2 m3 r0 r1
  simp only [putAll]
  go_simp
  try rw [e11,e12]
  clear e11 e12
  replace bM:=bM.ext hF
  replace bR:=bR.ext hF
  replace bQ:=bQ.ext hF
  replace hXa:=Lib.hid (ExtBut.trans hXa.out (ExtBut.of_ext hF))
  have hF6:=Ext.trans hF5 hF
  obtain ⟨bM_0,bM_1,bM_2,bM_3,bM_4,bM_5,bM_l⟩:=bM.c6
  go_wp2_with fail
  clear bM_0 bM_1 bM_2 bM_3 bM_4 bM_5 bM_l
  have hXcs:=Lib.hid (by have:=bR.lt;omega : wS.heap.size+2≤wq.heap.size)
  have hXa_hXc:=Lib.hid hXa.out.size
  refine (monitor_clone (hA.out.ext hF6) (hK.out.ext hF6) (hR.out.ext hF6) hcl.out.1 hcl.out.2.1 hcl.out.2.2).mono ?_
  rintro e w7 ⟨c,ca,ck,cr,vs,rfl,hC,hE7⟩
  replace bM:=bM.ext hE7
  replace bR:=bR.ext hE7
  replace bQ:=bQ.ext hE7
  replace hXa:=Lib.hid (ExtBut.trans hXa.out (ExtBut.of_ext hE7))
  have hF7:=Ext.trans hF6 hE7
  have hv:=hC.al.read.form
  obtain ⟨ca,cac,rfl,-⟩:=hv
  have hv:=hC.outer.sl.slice_form
  obtain ⟨ck,ckc,rfl,-⟩:=hv
  have hv:=hC.run.read.form
  obtain ⟨cr,crc,rfl,-⟩:=hv
  replace hC:=Lib.hid hC
  have hXc:=Lib.hid (ExtBut.refl (fun b=>wS.heap.size≤b∧b < wS.heap.size+2) w7)
  have bM_0 : World.cell? w7 ⟨wS.heap.size,0,none⟩=some (.slice aa m.mem.al.length ac):=bM.cell 0
  have bM_1 : World.cell? w7 ⟨wS.heap.size,1,none⟩=some (.int .i64 m.mem.next):=bM.cell 1
  have bM_2 : World.cell? w7 ⟨wS.heap.size,2,none⟩=some (.slice (some ⟨kb,ko,none⟩) m.stks.length kc):=bM.cell 2
  have bM_3 : World.cell? w7 ⟨wS.heap.size,3,none⟩=some (.slice ra m.run.length rc):=bM.cell 3
  have bM_4 : World.cell? w7 ⟨wS.heap.size,4,none⟩=some (.int .i64 m.tag):=bM.cell 4
  have bM_5 : World.cell? w7 ⟨wS.heap.size,5,none⟩=some (.int .i64 m.call):=bM.cell 5
  have bM_f0 : World.frozen? w7 ⟨wS.heap.size,0,none⟩=false:=bM.frozen 0
  have bM_f1 : World.frozen? w7 ⟨wS.heap.size,1,none⟩=false:=bM.frozen 1
  have bM_f2 : World.frozen? w7 ⟨wS.heap.size,2,none⟩=false:=bM.frozen 2
  have bM_f3 : World.frozen? w7 ⟨wS.heap.size,3,none⟩=false:=bM.frozen 3
  have bM_f4 : World.frozen? w7 ⟨wS.heap.size,4,none⟩=false:=bM.frozen 4
  have bM_f5 : World.frozen? w7 ⟨wS.heap.size,5,none⟩=false:=bM.frozen 5
  have bM_l:=bM.lt
  go_upto_region 12 with fail
  clear bM_0 bM_1 bM_2 bM_3 bM_4 bM_5 bM_f0 bM_f1 bM_f2 bM_f3 bM_f4 bM_f5 bM_l
  have hS8 : ExtBut (fun b=>wS.heap.size≤b∧b < wS.heap.size+2) w7 (World.setCell (World.setCell (World.setCell (World.setCell (World.setCell (World.setCell w7 ⟨wS.heap.size,0,none⟩ (.slice ca m.mem.al.length cac)) ⟨wS.heap.size,1,none⟩ (.int .i64 m.mem.next)) ⟨wS.heap.size,2,none⟩ (.slice ck m.stks.length ckc)) ⟨wS.heap.size,3,none⟩ (.slice cr m.run.length crc)) ⟨wS.heap.size,4,none⟩ (.int .i64 m.tag)) ⟨wS.heap.size,5,none⟩ (.int .i64 m.call)):=by (repeat' with_reducible first | exact ExtBut.refl _ _ | refine ExtBut.dr ?_ | refine ExtBut.sc ?_ ?_ | fail) <;> dsimp only <;> omega
  replace bM:=(Box.setL (Box.setL (Box.setL (Box.setL (Box.setL (Box.setL bM 0 (.slice ca m.mem.al.length cac)) 1 (.int .i64 m.mem.next)) 2 (.slice ck m.stks.length ckc)) 3 (.slice cr m.run.length crc)) 4 (.int .i64 m.tag)) 5 (.int .i64 m.call))
  simp only [List.set_cons_zero,List.set_cons_succ] at bM
  replace bR:=(Box.other (Box.other (Box.other (Box.other (Box.other (Box.other bR (p:=⟨wS.heap.size,0,none⟩) (by simp) (.slice ca m.mem.al.length cac)) (p:=⟨wS.heap.size,1,none⟩) (by simp) (.int .i64 m.mem.next)) (p:=⟨wS.heap.size,2,none⟩) (by simp) (.slice ck m.stks.length ckc)) (p:=⟨wS.heap.size,3,none⟩) (by simp) (.slice cr m.run.length crc)) (p:=⟨wS.heap.size,4,none⟩) (by simp) (.int .i64 m.tag)) (p:=⟨wS.heap.size,5,none⟩) (by simp) (.int .i64 m.call))
  replace bQ:=(Box.other (Box.other (Box.other (Box.other (Box.other (Box.other bQ (p:=⟨wS.heap.size,0,none⟩) (by have:=szbQ.out;show wS.heap.size≠w2.heap.size;omega) (.slice ca m.mem.al.length cac)) (p:=⟨wS.heap.size,1,none⟩) (by have:=szbQ.out;show wS.heap.size≠w2.heap.size;omega) (.int .i64 m.mem.next)) (p:=⟨wS.heap.size,2,none⟩) (by have:=szbQ.out;show wS.heap.size≠w2.heap.size;omega) (.slice ck m.stks.length ckc)) (p:=⟨wS.heap.size,3,none⟩) (by have:=szbQ.out;show wS.heap.size≠w2.heap.size;omega) (.slice cr m.run.length crc)) (p:=⟨wS.heap.size,4,none⟩) (by have:=szbQ.out;show wS.heap.size≠w2.heap.size;omega) (.int .i64 m.tag)) (p:=⟨wS.heap.size,5,none⟩) (by have:=szbQ.out;show wS.heap.size≠w2.heap.size;omega) (.int .i64 m.call))
  obtain ⟨w8s,hw8⟩ : ∃ z,(World.setCell (World.setCell (World.setCell (World.setCell (World.setCell (World.setCell w7 ⟨wS.heap.size,0,none⟩ (.slice ca m.mem.al.length cac)) ⟨wS.heap.size,1,none⟩ (.int .i64 m.mem.next)) ⟨wS.heap.size,2,none⟩ (.slice ck m.stks.length ckc)) ⟨wS.heap.size,3,none⟩ (.slice cr m.run.length crc)) ⟨wS.heap.size,4,none⟩ (.int .i64 m.tag)) ⟨wS.heap.size,5,none⟩ (.int .i64 m.call))=z:=⟨_,rfl⟩
  rw [hw8] at hS8 bM bR bQ ⊢
  clear hw8
  have hF8:=ExtBut.ext hF7 hS8 (fun b h=>h.1)
  replace hXa:=Lib.hid (ExtBut.trans hXa.out hS8)
  replace hXc:=Lib.hid (ExtBut.trans hXc.out hS8)
  clear hS8
  have bM_0 : World.cell? w8s ⟨wS.heap.size,0,none⟩=some (.slice ca m.mem.al.length cac):=bM.cell 0
  have bM_1 : World.cell? w8s ⟨wS.heap.size,1,none⟩=some (.int .i64 m.mem.next):=bM.cell 1
  have bM_2 : World.cell? w8s ⟨wS.heap.size,2,none⟩=some (.slice ck m.stks.length ckc):=bM.cell 2
  have bM_3 : World.cell? w8s ⟨wS.heap.size,3,none⟩=some (.slice cr m.run.length crc):=bM.cell 3
  have bM_4 : World.cell? w8s ⟨wS.heap.size,4,none⟩=some (.int .i64 m.tag):=bM.cell 4
  have bM_5 : World.cell? w8s ⟨wS.heap.size,5,none⟩=some (.int .i64 m.call):=bM.cell 5
  have bM_f0 : World.frozen? w8s ⟨wS.heap.size,0,none⟩=false:=bM.frozen 0
  have bM_f1 : World.frozen? w8s ⟨wS.heap.size,1,none⟩=false:=bM.frozen 1
  have bM_f2 : World.frozen? w8s ⟨wS.heap.size,2,none⟩=false:=bM.frozen 2
  have bM_f3 : World.frozen? w8s ⟨wS.heap.size,3,none⟩=false:=bM.frozen 3
  have bM_f4 : World.frozen? w8s ⟨wS.heap.size,4,none⟩=false:=bM.frozen 4
  have bM_f5 : World.frozen? w8s ⟨wS.heap.size,5,none⟩=false:=bM.frozen 5
  have bM_l:=bM.lt
  obtain ⟨bQ_0,bQ_1,bQ_l⟩:=bQ.c2
  go_upto_region 13 with fail
  clear bM_0 bM_1 bM_2 bM_3 bM_4 bM_5 bM_f0 bM_f1 bM_f2 bM_f3 bM_f4 bM_f5 bM_l bQ_0 bQ_1 bQ_l
  have hS9 : ExtBut (fun b=>wS.heap.size≤b∧b < wS.heap.size+2) w8s (World.setCell (World.setCell w8s ⟨wS.heap.size,0,none⟩ (.slice xa x.al.length xc)) ⟨wS.heap.size,1,none⟩ (.int .i64 x.next)):=by (repeat' with_reducible first | exact ExtBut.refl _ _ | refine ExtBut.dr ?_ | refine ExtBut.sc ?_ ?_ | fail) <;> dsimp only <;> omega
  replace bM:=(Box.setL (Box.setL bM 0 (.slice xa x.al.length xc)) 1 (.int .i64 x.next))
  simp only [List.set_cons_zero,List.set_cons_succ] at bM
  replace bR:=(Box.other (Box.other bR (p:=⟨wS.heap.size,0,none⟩) (by simp) (.slice xa x.al.length xc)) (p:=⟨wS.heap.size,1,none⟩) (by simp) (.int .i64 x.next))
  replace bQ:=(Box.other (Box.other bQ (p:=⟨wS.heap.size,0,none⟩) (by have:=szbQ.out;show wS.heap.size≠w2.heap.size;omega) (.slice xa x.al.length xc)) (p:=⟨wS.heap.size,1,none⟩) (by have:=szbQ.out;show wS.heap.size≠w2.heap.size;omega) (.int .i64 x.next))
  obtain ⟨w9s,hw9⟩ : ∃ z,(World.setCell (World.setCell w8s ⟨wS.heap.size,0,none⟩ (.slice xa x.al.length xc)) ⟨wS.heap.size,1,none⟩ (.int .i64 x.next))=z:=⟨_,rfl⟩
  rw [hw9] at hS9 bM bR bQ ⊢
  clear hw9
  have hF9:=ExtBut.ext hF8 hS9 (fun b h=>h.1)
  replace hXa:=Lib.hid (ExtBut.trans hXa.out hS9)
  replace hXc:=Lib.hid (ExtBut.trans hXc.out hS9)
  clear hS9
  have hCA:=Cloned.but hC.out hXc.out (fun b h1 h2=>by have:=hXcs.out;omega)
  have hMem : Fq (fun b=>wS.heap.size+2≤b∧b < wq.heap.size) w9s (fun wS=>Als wS (.slice xa x.al.length xc) x.al):=hx.out.to hXa.out (fun b h1 _ h2=>by have:=hXas.out;omega) (fun b h1 h2=>⟨by have:=hXas.out;omega,by have:=hXa_hXc.out;omega⟩)
  obtain ⟨g,s,e,hg1,hg2,hvs,-,d0,d1,hfr⟩:=(Cloned.own hCA).cell hsth.out
  subst e
  obtain ⟨hrf,⟨us,hrow⟩,hrc⟩:=hCA.row i s st hvs hsth.out
  obtain ⟨gs,cps,rfl,hgc1,hgc2,hgs1,hgs2⟩:=hrow.form (by have:=hcl1.out;omega)
  obtain ⟨ci,cz,hci,hcz,hczz⟩:=Stack.infoZ
  obtain ⟨w5,hr5,hO5,hX5⟩:=run_clear_own (P:=Tryz.prog) (ty:=0) (t:=66) (k:=1) (n:=st.cells.length) Tryz.underlying66 hci hcz (by rw [hczz];rfl) (by rw [hczz,zeroCells_nil];exact fun u hu=>by rw [List.eq_of_mem_replicate hu];rfl) hrow
  rw [hczz,zeroCells_nil] at hO5
  have hFin:=Cloned.cleared hCA hsth.out hvs hX5 hO5
  have hMem2:=Fq.to (S':=fun b=>wS.heap.size+2≤b) hMem hX5 (fun b h1 _ h2=>by have h3 : some gs=some b:=h2;cases h3;omega) (fun b h1 _=>h1.1)
  have hsz5:=hX5.size
  have bM5:=Box.but bM hX5 (fun h=>by have h3 : some gs=some _:=h;simp only [Option.some.injEq] at h3;have:=hXcs.out;omega)
  have bR5:=Box.but bR hX5 (fun h=>by have h3 : some gs=some _:=h;simp only [Option.some.injEq] at h3;have:=hXcs.out;omega)
  have hF5:=ExtBut.ext hF9 hX5 (fun b h=>by have h3 : some gs=some b:=h;cases h3;have:=hXcs.out;omega)
  replace hFin:=Lib.hid hFin;replace hMem2:=Lib.hid hMem2;replace bR5:=Lib.hid bR5;replace bM5:=Lib.hid bM5;replace hX5:=Lib.hid hX5
  clear hCA hMem hrf hrow hrc hO5 hfr hvs hci hcz hczz
  obtain ⟨bM_0,bM_1,bM_2,bM_3,bM_4,bM_5,bM_l⟩:=bM.c6
  go_upto_region 14 with fail
  clear bM_0 bM_1 bM_2 bM_3 bM_4 bM_5 bM_l
  clear bM bR bQ hr5 d0 d1;have bM:=bM5.out;have bR:=bR5.out;clear bM5 bR5
  have hXz:=Lib.hid (ExtBut.refl (fun b=>wS.heap.size≤b∧b < wS.heap.size+2) w5)
  obtain ⟨bM_0,bM_1,bM_2,bM_3,bM_4,bM_5,bM_l⟩:=bM.c6
  have bR_0 : World.cell? w5 ⟨wS.heap.size+1,0,none⟩=some (.slice none 0 0):=bR.cell 0
  have bR_1 : World.cell? w5 ⟨wS.heap.size+1,1,none⟩=some (.int .i64 0):=bR.cell 1
  have bR_2 : World.cell? w5 ⟨wS.heap.size+1,2,none⟩=some (.slice none 0 0):=bR.cell 2
  have bR_3 : World.cell? w5 ⟨wS.heap.size+1,3,none⟩=some (.slice none 0 0):=bR.cell 3
  have bR_4 : World.cell? w5 ⟨wS.heap.size+1,4,none⟩=some (.int .i64 0):=bR.cell 4
  have bR_5 : World.cell? w5 ⟨wS.heap.size+1,5,none⟩=some (.int .i64 0):=bR.cell 5
  have bR_f0 : World.frozen? w5 ⟨wS.heap.size+1,0,none⟩=false:=bR.frozen 0
  have bR_f1 : World.frozen? w5 ⟨wS.heap.size+1,1,none⟩=false:=bR.frozen 1
  have bR_f2 : World.frozen? w5 ⟨wS.heap.size+1,2,none⟩=false:=bR.frozen 2
  have bR_f3 : World.frozen? w5 ⟨wS.heap.size+1,3,none⟩=false:=bR.frozen 3
  have bR_f4 : World.frozen? w5 ⟨wS.heap.size+1,4,none⟩=false:=bR.frozen 4
  have bR_f5 : World.frozen? w5 ⟨wS.heap.size+1,5,none⟩=false:=bR.frozen 5
  have bR_l:=bR.lt
  go_wp2
  rw [hres.out]
  have hXe : ExtBut (fun b=>wS.heap.size≤b∧b < wS.heap.size+2) w5 (World.setCell (World.setCell (World.setCell (World.setCell (World.setCell (World.setCell w5 ⟨wS.heap.size+1,0,none⟩ (.slice xa x.al.length xc)) ⟨wS.heap.size+1,1,none⟩ (.int .i64 x.next)) ⟨wS.heap.size+1,2,none⟩ (.slice (some ⟨g,0,none⟩) m.stks.length ckc)) ⟨wS.heap.size+1,3,none⟩ (.slice cr m.run.length crc)) ⟨wS.heap.size+1,4,none⟩ (.int .i64 m.tag)) ⟨wS.heap.size+1,5,none⟩ (.int .i64 m.call)):=by (repeat' with_reducible first | exact ExtBut.refl _ _ | refine ExtBut.dr ?_ | refine ExtBut.sc ?_ ?_ | fail) <;> dsimp only <;> omega
  refine bodyPost_ret (v := .tuple #[.agg #[.slice xa x.al.length xc,.int .i64 x.next,.slice (some ⟨g,0,none⟩) m.stks.length ckc,.slice cr m.run.length crc,.int .i64 m.tag,.int .i64 m.call],.int .u8 0,.int .i64 0]) (by simp [results,Tryz.f24,go_sem,bR_0,bR_1,bR_2,bR_3,bR_4,bR_5]) rfl ?_
  have hFe:=ExtBut.ext hF5 hXe (fun b h=>h.1)
  have hXze:=ExtBut.trans hXz.out hXe
  have hxe2:=hxeh.out
  subst hxe2
  refine ⟨_,rfl,FrMon.of_fs (m:=⟨⟨endAt m.mem.al i,m.mem.next⟩,m.stks.set i (endedK st),m.run,m.tag,m.call⟩) (hMem2.out.to (S':=fun b=>wS.heap.size≤b) hXze (fun b h1 _ h2=>by omega) (fun b h1 _=>by omega)) ?_ (hFin.out.2.to (S':=fun b=>wS.heap.size≤b) hXze (fun b h1 _ h2=>by have:=h1.1;have:=hXcs.out;omega) (fun b h1 _=>by have:=h1.1;have:=hXcs.out;omega)),hFe⟩
  exact (OwnK.fs hFin.out.1).to (S':=fun b=>wS.heap.size≤b) hXze (fun b h1 _ h2=>by have:=hXcs.out;omega) (fun b h1 _=>by have:=hXcs.out;omega)
end Go.Proofs.YtnplphcnagooeaaGreatDoor

/- How a statement is closed whose row lists the variable perms: what it holds at the start. -/
namespace Go.Proofs.YtnplphcnagooeaaGreatDoor
set_option maxRecDepth 100000
open Go.ChangeShapes Go.WideShapes Go.ChangeAt Go.RowKit
theorem u8B_of {x : Int} (h : (Lit.int .u8 x).wf=true) : u8B x:=by simpa [Lit.wf,IntKind.min,IntKind.max,IntKind.signed,IntKind.bits,u8B] using h
theorem gPerms : Tryz.prog.globalNamed "pawnshop/grant.perms" = some 0 := by kernel_rfl
theorem gPermsType : (Tryz.prog.globals[0]?).map (·.type)=some 180:=by kernel_rfl
theorem cellsPerms : Tryz.prog.cellsOf 180=5:=by kernel_rfl
theorem cellsU8 : Tryz.prog.cellsOf 5=1:=by kernel_rfl
theorem perms_of_laid {W : World} (h : laidMetH Tryz.prog [("pawnshop/grant.perms", Rows.laid_pawnshop_grant_perms)] W) : Perms W := by
 have hT : Lib.TabIs Tryz.prog W "pawnshop/grant.perms" .u8 [0, 4, 1, 2, 3] := Lib.tabIs_of_head (rest := []) gPerms gPermsType Tryz.underlying180 Tryz.underlying5 cellsU8 cellsPerms h
 exact ⟨hT.cell gPerms 0 (by decide),hT.cell gPerms 1 (by decide),hT.cell gPerms 2 (by decide),hT.cell gPerms 3 (by decide),hT.cell gPerms 4 (by decide)⟩
noncomputable def doorWorld (os : Os) : World :=
 { World.holding Tryz.prog os ⟨#[],#[],[]⟩ with heap:=(World.holding Tryz.prog os ⟨#[],#[],[]⟩).heap.modify 0 fun
   | .cells _ t frozen => .cells #[.int .u8 0,.int .u8 4,.int .u8 1,.int .u8 2,.int .u8 3] t frozen
   | o=>o }
end Go.Proofs.YtnplphcnagooeaaGreatDoor
