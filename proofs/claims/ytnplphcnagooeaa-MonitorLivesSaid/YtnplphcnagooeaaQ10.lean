/- Several texts in one: ReadI, ReadO, Close, Law35A, MonM, MonH, CelW9. -/
import Derived.Test.YtnplphcnagooeaaQ01
import Derived.Test.YtnplphcnagooeaaQ02
import Derived.Test.YtnplphcnagooeaaQ03
import Derived.Test.YtnplphcnagooeaaQ04
import Derived.Test.YtnplphcnagooeaaQ09
import Derived.Test.YtnplphcnagooeaaQ07
import Derived.Test.YtnplphcnagooeaaQ06
/- How a list of numbers among the arguments reads. -/
namespace Go.Proofs.Ytnplphcnagooeaa
set_option maxRecDepth 100000
open Go.ChangeShapes Go.WideShapes Go.ChangeAt Go.RowKit
section
variable {H : Type} {enc : TypeId × Value→H} {w : World} {base : Nat} {spare : Nat→Bool} {held : Bool}
theorem rows_of_ints : ∀ {rows : List (List Value)} {l : List Int},All2 (fun cs (a : Int)=>cs=irow a∧i64B a) rows l→rows.flatten=l.flatMap irow ∧ ∀ a ∈ l,i64B a
 | [],[],_=>⟨rfl,fun _ h=>by cases h⟩
 | r :: rows,a :: l,h=>by
  obtain ⟨h1,h2⟩:=rows_of_ints h.2
  refine ⟨by rw [List.flatten_cons,List.flatMap_cons,h1,h.1.1],fun b hb => ?_⟩
  rcases List.mem_cons.1 hb with rfl | hb
  ·exact h.1.2
  ·exact h2 b hb
theorem read_ints {t : Nat} (ht : Try.prog.underlying t=some (.slice 3)) {n : Nat} {cs : List Value} {x : DataW H × List MemPlace} (h : DataW.trod enc Try.prog w base spare held n t cs=some x) :
  ∃ (v : Value) (l : List Int),cs=[v]∧Nts w v l ∧ ∀ a ∈ l,i64B a:=by
 obtain ⟨v,rows,l,rfl,hs,_,ha⟩:=read_slice (k:=1) ht (by kernel_rfl) (by omega) (fun cs (a : Int)=>cs=irow a∧i64B a) (fun n cs x hl h=>by
  obtain ⟨a,e,_,hw⟩:=DataW.trod_int Try.underlying3 h
  exact ⟨a,e,by simpa [Lit.wf,IntKind.min,IntKind.max,IntKind.signed,IntKind.bits,i64B] using hw⟩) h
 obtain ⟨e,hw⟩:=rows_of_ints ha
 refine ⟨v,l,rfl,?_,hw⟩
 unfold Nts
 rw [← e,← ha.length]
 exact hs
end
end Go.Proofs.Ytnplphcnagooeaa

/- How the arguments of a statement read: monitors. -/
namespace Go.Proofs.Ytnplphcnagooeaa
set_option maxRecDepth 100000
open Go.ChangeShapes Go.WideShapes Go.ChangeAt Go.RowKit
section
variable {H : Type} {enc : TypeId × Value→H} {w : World} {base : Nat} {spare : Nat→Bool} {held : Bool}
theorem read_manystacks {t : Nat} (ht : Try.prog.underlying t=some (.slice 58)) {n : Nat} {cs : List Value} {x : DataW H × List MemPlace} (h : DataW.trod enc Try.prog w base spare held n t cs=some x) : ∃ (v : Value) (l : List Stk),cs=[v]∧Kts w v l:=by
 obtain ⟨v,rows,l,rfl,hs,_,ha⟩:=read_slice (k:=2) ht (by kernel_rfl) (by omega) (fun cs (a : Stk) => ∃ s,cs=krow s a∧(Sts w s a.cells∧i64B a.num)) (fun n cs x hl h=>by
  obtain ⟨m,s,h1,h2,h3⟩:=read_stk n cs x hl h
  exact ⟨m,s,h1,h2,h3⟩) h
 obtain ⟨vs,h1,h2⟩:=ha.tab
 refine ⟨v,l,rfl,vs,h1.mono fun _ _ h=>h.1,?_⟩
 rw [← h2,← ha.length]
 exact hs
theorem open_mon {r : Reach} {b0 : Nat} {v : Value} {d : DataW H} {p : List MemPlace} (hv : Value.okWide Try.prog w r b0 28 v) (h : DataW.Trod enc Try.prog w base spare held 28 v d p) :
  ∃ m : Mon,RdMon w v m∧m.mem.wf:=by
 obtain ⟨cs,rfl,hsz⟩:=okWide_struct Try.underlying28 hv
 have hc : Try.prog.cellsOf 28=6:=by kernel_rfl
 have c64 : Try.prog.cellsOf 3=1:=by kernel_rfl
 have cM : Try.prog.cellsOf 24=2:=by kernel_rfl
 have cS : Try.prog.cellsOf 25=1:=by kernel_rfl
 have cR : Try.prog.cellsOf 26=1:=by kernel_rfl
 obtain ⟨n,hn⟩:=h
 have hlen : (Value.agg cs).cells.toList.length=6:=by simp only [Value.cells,Array.length_toList];exact hsz.trans hc
 obtain ⟨xs,k,rfl,-,_,hx,hf⟩:=DataW.trod_struct Try.underlying28 hn
 obtain ⟨l,hl⟩ : ∃ l,(Value.agg cs).cells.toList=l:=⟨_,rfl⟩
 rw [hl] at hf hlen
 have hcs : cs.toList=l:=by rw [← hl];rfl
 match l,hlen with
 | [e0,e1,e2,e3,e4,e5],_ =>
  have f0 : DataW.trod enc Try.prog w base spare held k 24 (([e0,e1,e2,e3,e4,e5].drop 0).take (Try.prog.cellsOf 24))=xs[0]? := hf 0 _ rfl
  have f1 : DataW.trod enc Try.prog w base spare held k 25 (([e0,e1,e2,e3,e4,e5].drop 2).take (Try.prog.cellsOf 25))=xs[1]? := hf 1 _ rfl
  have f2 : DataW.trod enc Try.prog w base spare held k 26 (([e0,e1,e2,e3,e4,e5].drop 3).take (Try.prog.cellsOf 26))=xs[2]? := hf 2 _ rfl
  have f3 : DataW.trod enc Try.prog w base spare held k 3 (([e0,e1,e2,e3,e4,e5].drop 4).take (Try.prog.cellsOf 3))=xs[3]? := hf 3 _ rfl
  have f4 : DataW.trod enc Try.prog w base spare held k 3 (([e0,e1,e2,e3,e4,e5].drop 5).take (Try.prog.cellsOf 3))=xs[4]? := hf 4 _ rfl
  rw [cM] at f0
  rw [cS] at f1
  rw [cR] at f2
  rw [c64] at f3 f4
  match xs,hx with
  | [y0,y1,y2,y3,y4],_ =>
   obtain ⟨m,s,q0,ha,hw⟩:=read_mem _ _ _ rfl f0
   obtain ⟨ks,kl,q1,hk⟩:=read_manystacks Try.underlying25 f1
   obtain ⟨rs,rl,q2,hr,-⟩:=read_ints Try.underlying26 f2
   obtain ⟨tg,q3,-,-⟩:=DataW.trod_int Try.underlying3 f3
   obtain ⟨cl,q4,-,-⟩:=DataW.trod_int Try.underlying3 f4
   simp at q0 q1 q2 q3 q4
   obtain ⟨rfl,rfl⟩:=q0
   subst q1 q2 q3 q4
   refine ⟨⟨m,kl,rl,tg,cl⟩,⟨_,_,_,?_,ha,hk,hr⟩,hw⟩
   congr 1
   apply Array.toList_inj.1
   rw [hcs]
end
end Go.Proofs.Ytnplphcnagooeaa

/- How a statement is closed: a call that returns true and only makes memory leaves every argument aas it read. -/
namespace Go.Proofs.Ytnplphcnagooeaa
set_option maxRecDepth 100000
open Go.ChangeShapes Go.WideShapes Go.ChangeAt Go.RowKit
theorem Tryown : ownKnob Try.prog.godebug=none:=by kernel_rfl
theorem TrylaidOut : laidOutB Try.prog=true:=by kernel_rfl
section
variable {H : Type} {enc : TypeId × Value→H} {P : Program}
theorem trodAll_stays (hl : laidOutB P=true) {W W' : World} (hb : Below W.heap.size W W') : ∀ (ts : List TypeId) (vs : List Value) (ds : List (DataW H)) (ps : List MemPlace),(∀ t ∈ ts,P.readableRec t=true∧t < P.types.size)→(∀ x ∈ ps,x.block < W.heap.size) →
  DataW.TrodAll enc P W 0 (fun _=>true) true ts vs ds ps→DataW.TrodAll enc P W' 0 (fun b=>decide (b < W.heap.size)) true ts vs ds ps
 | [],[],[],ps,_,_,h=>h
 | t :: ts,v :: vs,d :: ds,ps,hr,hlt,h=>by
  obtain ⟨p,q,h1,h2,rfl⟩:=h
  refine ⟨p,q,Below.trod hl (hr t (by simp)).1 (hr t (by simp)).2 h1 hb (fun x hx=>hlt x (by simp [hx])),trodAll_stays hl hb ts vs ds q (fun t ht=>hr t (by simp [ht])) (fun x hx=>hlt x (by simp [hx])) h2,rfl⟩
 | [],_ :: _,_,_,_,_,h=>h.elim
 | [],[],_ :: _,_,_,_,h=>h.elim
 | _ :: _,[],_,_,_,_,h=>h.elim
 | _ :: _,_ :: _,[],_,_,_,h=>h.elim
theorem trodAll_len {W : World} : ∀ (ts : List TypeId) (vs : List Value) (ds : List (DataW H)) (ps : List MemPlace),DataW.TrodAll enc P W 0 (fun _=>true) true ts vs ds ps→ds.length=ts.length
 | [],[],[],_,_=>rfl
 | _ :: ts,_ :: vs,_ :: ds,_,h=>by
  obtain ⟨p,q,_,h2,_⟩:=h
  simp [trodAll_len ts vs ds q h2]
 | [],_ :: _,_,_,h=>h.elim
 | [],[],_ :: _,_,h=>h.elim
 | _ :: _,[],_,_,h=>h.elim
 | _ :: _,_ :: _,[],_,h=>h.elim
theorem post_law (hl : laidOutB P=true) {f : Func} {s : ChangeSpec} {tb : TypeId} (hres : f.resultTypes=#[tb]) (htb : P.underlying tb=some .bool) (hrd : f.params.toList.all (fun t=>P.readableRec t && decide (t < P.types.size))=true) (hv : s.vars=[])
  (hs : ∀ ds : List (DataW H),ds.length=f.params.size→s.fn H ds = { results:=[.lit (.bool true)],args:=ds,vars:=[] }) {fresh handsOn : Bool} {W W' : World} {args : Array Value} {ds gs : List (DataW H)} {before : List MemPlace}
  (hW : DataW.Whole enc P f.params.toList s.vars false W args.toList ds gs before) (hb : Below W.heap.size W W') :
  s.post enc P f false fresh handsOn false W args (.bool true) W':=by
 have hW':=hW
 have hlt:=hW.lt
 obtain ⟨p,q,hA,hV,rfl,hz,hn⟩:=hW
 rw [hv] at hV
 have hgs : gs=[]:=by cases gs <;> simp_all [DataW.TrodVars]
 subst hgs
 have hq : q=[]:=hV
 subst hq
 have hlen:=trodAll_len _ _ _ _ hA
 have hfn:=hs ds (by simpa using hlen)
 refine ⟨ds,[],p ++ [],[],p,[],hW',?_,?_,?_,Below.frame hb _,fun h=>by cases h⟩
 ·rw [List.append_nil,hfn,hres]
  exact trodAll_mk1 (shut_bool htb true)
 ·rw [List.append_nil,hfn]
  refine trodAll_stays hl hb _ _ _ _ (fun t ht => ?_) (fun x hx=>hlt x (by simp [hx])) hA
  have:=List.all_eq_true.1 hrd t ht
  simpa using this
 ·rw [List.append_nil,hfn,hv]
  rfl
end
end Go.Proofs.Ytnplphcnagooeaa

/- What the statements of layer 35 share. (printed by gen/law35a.py) -/
namespace Go.Proofs.Ytnplphcnagooeaa
set_option maxRecDepth 100000
open Go.RowKit
theorem notGreat.small {m : Mon} (h : notGreat m) : small m.mem.al∧(m.stks.length≤1000000 ∧ ∀ x ∈ m.stks,x.cells.length≤1000000 ∧ ∀ s ∈ x.cells,s.length≤1000000)∧m.run.length≤1000000:=by
 obtain ⟨h1,h2,h3,h4⟩:=h
 refine ⟨?_,⟨by omega,fun x hx => ?_⟩,by omega⟩
 ·unfold greatM at h1
  simp only [Bool.or_eq_false_iff,decide_eq_false_iff_not] at h1
  refine ⟨by omega,fun a ha => ?_⟩
  have h5:=List.any_eq_false.1 h1.1 a (by rw [List.take_of_length_le (by omega)];exact ha)
  simp at h5
  omega
 ·have h5:=greatK_small (h4 x hx)
  exact ⟨by omega,fun s hs=>by have:=h5.2 s hs;omega⟩
theorem rd_m {w : World} {m : Mon} {sa ss sr : Value} (hA : Als w sa m.mem.al) (hK : Kts w ss m.stks) (hR : Nts w sr m.run) : RdMon w (.agg #[sa,.int .i64 m.mem.next,ss,sr,.int .i64 m.tag,.int .i64 m.call]) m:=⟨_,_,_,rfl,hA,hK,hR⟩
theorem rd_parts {w : World} {m : Mon} {sa ss sr : Value} (h : Als w sa m.mem.al∧Kts w ss m.stks∧Nts w sr m.run) : RdMon w (.agg #[sa,.int .i64 m.mem.next,ss,sr,.int .i64 m.tag,.int .i64 m.call]) m:=⟨_,_,_,rfl,h.1,h.2.1,h.2.2⟩
end Go.Proofs.Ytnplphcnagooeaa

/- Contracts: monitor.Alloc. (printed by gen/mon35f.py) -/
namespace Go.Proofs.Ytnplphcnagooeaa
set_option maxRecDepth 100000
open Go.RowKit
theorem allocM_bad {m : Mon} {size : Int} (h : okMon m=false) : allocM m size=(Mon.zero,Ptr.zero,8):=by simp [allocM,h]
theorem allocM_add {m : Mon} {size : Int} (h : okMon m=true) (he : (addR m.mem size).2.2≠0) : allocM m size=(Mon.zero,Ptr.zero,(addR m.mem size).2.2):=by rw [allocM,if_pos h,if_neg he]
theorem allocM_full {m : Mon} {size : Int} (h : okMon m=true) (he : (addR m.mem size).2.2=0) (ht : m.tag=1000000) : allocM m size=(Mon.zero,Ptr.zero,18):=by rw [allocM,if_pos h,if_pos he,if_pos ht]
theorem allocM_ok {m : Mon} {size : Int} (h : okMon m=true) (he : (addR m.mem size).2.2=0) (ht : ¬ m.tag=1000000) :
  allocM m size=(⟨(addR m.mem size).1,m.stks ++ [⟨(addR m.mem size).2.1,based size.toNat m.tag⟩],m.run,m.tag+1,m.call⟩,⟨(addR m.mem size).2.1,0,m.tag⟩,0):=by rw [allocM,if_pos h,if_pos he,if_neg ht]
theorem addR_zero {m x : Mem} {size n : Int} (hok : m.ok=true) (h : addR m size=(x,n,0)) : x=⟨m.al ++ [newAlloc m.next size.toNat],m.next+1⟩∧1≤size∧size≤2∧(0≤n∧n≤1000000)∧m.al.length < 400∧n=m.next∧m.next < 1000000:=by
 have hb:=ok_bounds hok
 by_cases h1 : size < 1∨2 < size
 ·rw [addR_arg hok h1] at h;simp at h
 by_cases h2 : m.al.length=400∨m.next=1000000
 ·rw [addR_full hok h1 h2] at h;simp at h
 rw [addR_yes hok h1 h2] at h
 simp only [Prod.mk.injEq,and_true] at h
 obtain ⟨rfl,rfl⟩:=h
 refine ⟨rfl,?_,?_,?_,?_,rfl,?_⟩ <;> omega
set_option maxRecDepth 100000 in
set_option maxHeartbeats 6400000 in
theorem monitor_Alloc {m : Mon} {sa ss sr : Value} {w : World} (size : Int) (hA : Als w sa m.mem.al) (hn : i64B m.mem.next) (hK : Kts w ss m.stks) (hR : Nts w sr m.run) :
  Calls Try.prog 6 #[.agg #[sa,.int .i64 m.mem.next,ss,sr,.int .i64 m.tag,.int .i64 m.call],.int .i64 size] w (RetF w (fun v => .tuple #[v,(allocM m size).2.1.val,.int .i64 (allocM m size).2.2]) (allocM m size).1):=by
 obtain ⟨aa,ac,rfl,hac,hacm,-⟩:=hA.form
 obtain ⟨ka,kc,rfl,hkc,hkcm,-⟩:=hK.form
 obtain ⟨ra,rc,rfl,hrc,hrcm,-⟩:=hR.form
 unfold maxLen at hacm hkcm hrcm
 have hE0 : Ext w (World.alloc (World.alloc (World.alloc w (.cells #[.slice aa m.mem.al.length ac,.int .i64 m.mem.next,.slice ka m.stks.length kc,.slice ra m.run.length rc,.int .i64 m.tag,.int .i64 m.call] 28)) (.cells #[.slice none 0 0,.int .i64 0,.slice none 0 0,.slice none 0 0,.int .i64 0,.int .i64 0] 28)) (.cells #[.int .i64 0,.int .i64 0,.int .i64 0] 32)):=by repeat (first | exact Ext.refl _ | refine Ext.alloc ?_ _)
 have bM : Box (World.alloc (World.alloc (World.alloc w (.cells #[.slice aa m.mem.al.length ac,.int .i64 m.mem.next,.slice ka m.stks.length kc,.slice ra m.run.length rc,.int .i64 m.tag,.int .i64 m.call] 28)) (.cells #[.slice none 0 0,.int .i64 0,.slice none 0 0,.slice none 0 0,.int .i64 0,.int .i64 0] 28)) (.cells #[.int .i64 0,.int .i64 0,.int .i64 0] 32)) (w.heap.size) 28 #[.slice aa m.mem.al.length ac,.int .i64 m.mem.next,.slice ka m.stks.length kc,.slice ra m.run.length rc,.int .i64 m.tag,.int .i64 m.call]:=(by
  have h:=Box.new w 28 #[.slice aa m.mem.al.length ac,.int .i64 m.mem.next,.slice ka m.stks.length kc,.slice ra m.run.length rc,.int .i64 m.tag,.int .i64 m.call]
  replace h:=Box.ext h ((Ext.refl _).alloc (.cells #[.slice none 0 0,.int .i64 0,.slice none 0 0,.slice none 0 0,.int .i64 0,.int .i64 0] 28))
  replace h:=Box.ext h ((Ext.refl _).alloc (.cells #[.int .i64 0,.int .i64 0,.int .i64 0] 32))
  exact h)
 have bR : Box (World.alloc (World.alloc (World.alloc w (.cells #[.slice aa m.mem.al.length ac,.int .i64 m.mem.next,.slice ka m.stks.length kc,.slice ra m.run.length rc,.int .i64 m.tag,.int .i64 m.call] 28)) (.cells #[.slice none 0 0,.int .i64 0,.slice none 0 0,.slice none 0 0,.int .i64 0,.int .i64 0] 28)) (.cells #[.int .i64 0,.int .i64 0,.int .i64 0] 32)) (w.heap.size+1) 28 #[.slice none 0 0,.int .i64 0,.slice none 0 0,.slice none 0 0,.int .i64 0,.int .i64 0]:=(by
  have h:=Box.new (World.alloc w (.cells #[.slice aa m.mem.al.length ac,.int .i64 m.mem.next,.slice ka m.stks.length kc,.slice ra m.run.length rc,.int .i64 m.tag,.int .i64 m.call] 28)) 28 #[.slice none 0 0,.int .i64 0,.slice none 0 0,.slice none 0 0,.int .i64 0,.int .i64 0]
  simp only [World.size_alloc] at h
  replace h:=Box.ext h ((Ext.refl _).alloc (.cells #[.int .i64 0,.int .i64 0,.int .i64 0] 32))
  exact h)
 have bP : Box (World.alloc (World.alloc (World.alloc w (.cells #[.slice aa m.mem.al.length ac,.int .i64 m.mem.next,.slice ka m.stks.length kc,.slice ra m.run.length rc,.int .i64 m.tag,.int .i64 m.call] 28)) (.cells #[.slice none 0 0,.int .i64 0,.slice none 0 0,.slice none 0 0,.int .i64 0,.int .i64 0] 28)) (.cells #[.int .i64 0,.int .i64 0,.int .i64 0] 32)) (w.heap.size+2) 32 #[.int .i64 0,.int .i64 0,.int .i64 0]:=(by
  have h:=Box.new (World.alloc (World.alloc w (.cells #[.slice aa m.mem.al.length ac,.int .i64 m.mem.next,.slice ka m.stks.length kc,.slice ra m.run.length rc,.int .i64 m.tag,.int .i64 m.call] 28)) (.cells #[.slice none 0 0,.int .i64 0,.slice none 0 0,.slice none 0 0,.int .i64 0,.int .i64 0] 28)) 32 #[.int .i64 0,.int .i64 0,.int .i64 0]
  simp only [World.size_alloc] at h
  exact h)
 obtain ⟨w0,hw0⟩ : ∃ z,(World.alloc (World.alloc (World.alloc w (.cells #[.slice aa m.mem.al.length ac,.int .i64 m.mem.next,.slice ka m.stks.length kc,.slice ra m.run.length rc,.int .i64 m.tag,.int .i64 m.call] 28)) (.cells #[.slice none 0 0,.int .i64 0,.slice none 0 0,.slice none 0 0,.int .i64 0,.int .i64 0] 28)) (.cells #[.int .i64 0,.int .i64 0,.int .i64 0] 32))=z:=⟨_,rfl⟩
 rw [hw0] at hE0 bM bR bP
 have hs0 : w0.heap.size=w.heap.size+3:=by rw [← hw0];simp
 replace hs0:=Lib.hid hs0
 replace hA:=Lib.hid hA
 replace hK:=Lib.hid hK
 replace hR:=Lib.hid hR
 replace hn:=Lib.hid hn
 cases hok : okMon m
 ·skip
  have hce:=Lib.hid (monErr_not hok)
  have hres:=Lib.hid (allocM_bad (size:=size) hok)
  clear hok
  go_enter Try.func6,Try.ntmps6
  obtain ⟨bM_0,bM_1,bM_2,bM_3,bM_4,bM_5,bM_l⟩:=bM.c6
  go_wp2_with fail
  clear bM_0 bM_1 bM_2 bM_3 bM_4 bM_5 bM_l
  refine (mon_Check' (hA.out.ext hE0) hn.out (hK.out.ext hE0) (hR.out.ext hE0)).mono ?_
  rintro e w1 ⟨rfl,hE1⟩
  replace bM:=bM.ext hE1
  replace bR:=bR.ext hE1
  replace bP:=bP.ext hE1
  have hF1:=Ext.trans hE0 hE1
  rw [hce.out]
  clear hw0
  obtain ⟨bM_0,bM_1,bM_2,bM_3,bM_4,bM_5,bM_l⟩:=bM.c6
  have bR_0 : World.cell? w1 ⟨w.heap.size+1,0,none⟩=some (.slice none 0 0):=bR.cell 0
  have bR_1 : World.cell? w1 ⟨w.heap.size+1,1,none⟩=some (.int .i64 0):=bR.cell 1
  have bR_2 : World.cell? w1 ⟨w.heap.size+1,2,none⟩=some (.slice none 0 0):=bR.cell 2
  have bR_3 : World.cell? w1 ⟨w.heap.size+1,3,none⟩=some (.slice none 0 0):=bR.cell 3
  have bR_4 : World.cell? w1 ⟨w.heap.size+1,4,none⟩=some (.int .i64 0):=bR.cell 4
  have bR_5 : World.cell? w1 ⟨w.heap.size+1,5,none⟩=some (.int .i64 0):=bR.cell 5
  have bR_f0 : World.frozen? w1 ⟨w.heap.size+1,0,none⟩=false:=bR.frozen 0
  have bR_f1 : World.frozen? w1 ⟨w.heap.size+1,1,none⟩=false:=bR.frozen 1
  have bR_f2 : World.frozen? w1 ⟨w.heap.size+1,2,none⟩=false:=bR.frozen 2
  have bR_f3 : World.frozen? w1 ⟨w.heap.size+1,3,none⟩=false:=bR.frozen 3
  have bR_f4 : World.frozen? w1 ⟨w.heap.size+1,4,none⟩=false:=bR.frozen 4
  have bR_f5 : World.frozen? w1 ⟨w.heap.size+1,5,none⟩=false:=bR.frozen 5
  have bR_l:=bR.lt
  have bP_0 : World.cell? w1 ⟨w.heap.size+2,0,none⟩=some (.int .i64 0):=bP.cell 0
  have bP_1 : World.cell? w1 ⟨w.heap.size+2,1,none⟩=some (.int .i64 0):=bP.cell 1
  have bP_2 : World.cell? w1 ⟨w.heap.size+2,2,none⟩=some (.int .i64 0):=bP.cell 2
  have bP_f0 : World.frozen? w1 ⟨w.heap.size+2,0,none⟩=false:=bP.frozen 0
  have bP_f1 : World.frozen? w1 ⟨w.heap.size+2,1,none⟩=false:=bP.frozen 1
  have bP_f2 : World.frozen? w1 ⟨w.heap.size+2,2,none⟩=false:=bP.frozen 2
  have bP_l:=bP.lt
  go_wp2
  rw [hres.out]
  have hXe : ExtBut (fun b=>w.heap.size≤b∧b < w.heap.size+3) w1 (World.setCell (World.setCell (World.setCell (World.setCell (World.setCell (World.setCell (World.setCell (World.setCell (World.setCell w1 ⟨w.heap.size+1,0,none⟩ (.slice none 0 0)) ⟨w.heap.size+1,1,none⟩ (.int .i64 0)) ⟨w.heap.size+1,2,none⟩ (.slice none 0 0)) ⟨w.heap.size+1,3,none⟩ (.slice none 0 0)) ⟨w.heap.size+1,4,none⟩ (.int .i64 0)) ⟨w.heap.size+1,5,none⟩ (.int .i64 0)) ⟨w.heap.size+2,0,none⟩ (.int .i64 0)) ⟨w.heap.size+2,1,none⟩ (.int .i64 0)) ⟨w.heap.size+2,2,none⟩ (.int .i64 0)):=by (repeat' with_reducible first | exact ExtBut.refl _ _ | refine ExtBut.dr ?_ | refine ExtBut.sc ?_ ?_ | fail) <;> dsimp only <;> omega
  refine bodyPost_ret (v := .tuple #[.agg #[.slice none 0 0,.int .i64 0,.slice none 0 0,.slice none 0 0,.int .i64 0,.int .i64 0],.agg #[.int .i64 0,.int .i64 0,.int .i64 0],.int .i64 8]) (by simp [results,Try.f6,go_sem,bR_0,bR_1,bR_2,bR_3,bR_4,bR_5,bP_0,bP_1,bP_2]) rfl ?_
  have hFe:=ExtBut.ext hF1 hXe (fun b h=>h.1)
  exact ⟨_,rfl,FrMon.zero _ _,hFe⟩
 have hMok:=MonOk.of hok
 have hce:=Lib.hid (monErr_of hok)
 have hcl:=Lib.hid hMok.small
 obtain ⟨⟨x,n,er⟩,har⟩ : ∃ z,addR m.mem size=z:=⟨_,rfl⟩
 by_cases he : er=0
 rotate_left
 ·skip
  have q1 : (er != 0)=true:=by simpa using he
  have hres:=Lib.hid (allocM_add hok (by rw [har];exact he) : allocM m size=_)
  rw [har] at hres
  have harh:=Lib.hid har
  clear hok hMok he har
  go_enter Try.func6,Try.ntmps6
  obtain ⟨bM_0,bM_1,bM_2,bM_3,bM_4,bM_5,bM_l⟩:=bM.c6
  go_wp2_with fail
  clear bM_0 bM_1 bM_2 bM_3 bM_4 bM_5 bM_l
  refine (mon_Check' (hA.out.ext hE0) hn.out (hK.out.ext hE0) (hR.out.ext hE0)).mono ?_
  rintro e w1 ⟨rfl,hE1⟩
  replace bM:=bM.ext hE1
  replace bR:=bR.ext hE1
  replace bP:=bP.ext hE1
  have hF1:=Ext.trans hE0 hE1
  rw [hce.out]
  clear hw0
  obtain ⟨bM_0,bM_1,bM_2,bM_3,bM_4,bM_5,bM_l⟩:=bM.c6
  go_wp2_with fail
  clear bM_0 bM_1 bM_2 bM_3 bM_4 bM_5 bM_l
  have hXas:=Lib.hid (by have:=bP.lt;omega : w.heap.size+3≤w1.heap.size)
  refine (allocs_Add size (hA.out.ext hF1) hn.out).mono ?_
  rintro e w2 ⟨v,rfl,fM,hE2⟩
  replace bM:=bM.ext hE2
  replace bR:=bR.ext hE2
  replace bP:=bP.ext hE2
  have hF2:=Ext.trans hF1 hE2
  rw [harh.out] at fM ⊢
  obtain ⟨sx,rfl,hx⟩:=FrM.fs fM
  clear fM
  have hv:=hx.read.form
  obtain ⟨xa,xc,rfl,-⟩:=hv
  dsimp only at hx ⊢
  replace hx:=Lib.hid hx
  have hXa:=Lib.hid (ExtBut.refl (fun b=>w.heap.size≤b∧b < w.heap.size+3) w2)
  obtain ⟨bM_0,bM_1,bM_2,bM_3,bM_4,bM_5,bM_l⟩:=bM.c6
  go_upto_region 6 with fail
  clear bM_0 bM_1 bM_2 bM_3 bM_4 bM_5 bM_l
  have szbQ:=Lib.hid (by have:=bP.lt;omega : w.heap.size+3≤w2.heap.size)
  have bQ:=Box.new w2 24 #[.slice xa x.al.length xc,.int .i64 x.next]
  have hzb0 : (World.alloc w2 (.cells #[.slice xa x.al.length xc,.int .i64 x.next] 24)).heap.size=w2.heap.size+1:=by rw [World.size_alloc]
  have hx3 : Ext w2 (World.alloc w2 (.cells #[.slice xa x.al.length xc,.int .i64 x.next] 24)):=(Ext.refl _).alloc _
  obtain ⟨w3b,hw3⟩ : ∃ z,World.alloc w2 (.cells #[.slice xa x.al.length xc,.int .i64 x.next] 24)=z:=⟨_,rfl⟩
  rw [hw3] at bQ hx3 hzb0 ⊢
  clear hw3
  replace bM:=bM.ext hx3
  replace bR:=bR.ext hx3
  replace bP:=bP.ext hx3
  replace hXa:=Lib.hid (ExtBut.trans hXa.out (ExtBut.of_ext hx3))
  have hF4:=Ext.trans hF2 hx3
  clear hzb0
  obtain ⟨bM_0,bM_1,bM_2,bM_3,bM_4,bM_5,bM_l⟩:=bM.c6
  have bR_0 : World.cell? w3b ⟨w.heap.size+1,0,none⟩=some (.slice none 0 0):=bR.cell 0
  have bR_1 : World.cell? w3b ⟨w.heap.size+1,1,none⟩=some (.int .i64 0):=bR.cell 1
  have bR_2 : World.cell? w3b ⟨w.heap.size+1,2,none⟩=some (.slice none 0 0):=bR.cell 2
  have bR_3 : World.cell? w3b ⟨w.heap.size+1,3,none⟩=some (.slice none 0 0):=bR.cell 3
  have bR_4 : World.cell? w3b ⟨w.heap.size+1,4,none⟩=some (.int .i64 0):=bR.cell 4
  have bR_5 : World.cell? w3b ⟨w.heap.size+1,5,none⟩=some (.int .i64 0):=bR.cell 5
  have bR_f0 : World.frozen? w3b ⟨w.heap.size+1,0,none⟩=false:=bR.frozen 0
  have bR_f1 : World.frozen? w3b ⟨w.heap.size+1,1,none⟩=false:=bR.frozen 1
  have bR_f2 : World.frozen? w3b ⟨w.heap.size+1,2,none⟩=false:=bR.frozen 2
  have bR_f3 : World.frozen? w3b ⟨w.heap.size+1,3,none⟩=false:=bR.frozen 3
  have bR_f4 : World.frozen? w3b ⟨w.heap.size+1,4,none⟩=false:=bR.frozen 4
  have bR_f5 : World.frozen? w3b ⟨w.heap.size+1,5,none⟩=false:=bR.frozen 5
  have bR_l:=bR.lt
  have bP_0 : World.cell? w3b ⟨w.heap.size+2,0,none⟩=some (.int .i64 0):=bP.cell 0
  have bP_1 : World.cell? w3b ⟨w.heap.size+2,1,none⟩=some (.int .i64 0):=bP.cell 1
  have bP_2 : World.cell? w3b ⟨w.heap.size+2,2,none⟩=some (.int .i64 0):=bP.cell 2
  have bP_f0 : World.frozen? w3b ⟨w.heap.size+2,0,none⟩=false:=bP.frozen 0
  have bP_f1 : World.frozen? w3b ⟨w.heap.size+2,1,none⟩=false:=bP.frozen 1
  have bP_f2 : World.frozen? w3b ⟨w.heap.size+2,2,none⟩=false:=bP.frozen 2
  have bP_l:=bP.lt
  go_wp2
  rw [hres.out]
  have hXe : ExtBut (fun b=>w.heap.size≤b∧b < w.heap.size+3) w3b (World.setCell (World.setCell (World.setCell (World.setCell (World.setCell (World.setCell (World.setCell (World.setCell (World.setCell w3b ⟨w.heap.size+1,0,none⟩ (.slice none 0 0)) ⟨w.heap.size+1,1,none⟩ (.int .i64 0)) ⟨w.heap.size+1,2,none⟩ (.slice none 0 0)) ⟨w.heap.size+1,3,none⟩ (.slice none 0 0)) ⟨w.heap.size+1,4,none⟩ (.int .i64 0)) ⟨w.heap.size+1,5,none⟩ (.int .i64 0)) ⟨w.heap.size+2,0,none⟩ (.int .i64 0)) ⟨w.heap.size+2,1,none⟩ (.int .i64 0)) ⟨w.heap.size+2,2,none⟩ (.int .i64 0)):=by (repeat' with_reducible first | exact ExtBut.refl _ _ | refine ExtBut.dr ?_ | refine ExtBut.sc ?_ ?_ | fail) <;> dsimp only <;> omega
  refine bodyPost_ret (v := .tuple #[.agg #[.slice none 0 0,.int .i64 0,.slice none 0 0,.slice none 0 0,.int .i64 0,.int .i64 0],.agg #[.int .i64 0,.int .i64 0,.int .i64 0],.int .i64 er]) (by simp [results,Try.f6,go_sem,bR_0,bR_1,bR_2,bR_3,bR_4,bR_5,bP_0,bP_1,bP_2]) rfl ?_
  have hFe:=ExtBut.ext hF4 hXe (fun b h=>h.1)
  have hXae:=ExtBut.trans hXa.out hXe
  exact ⟨_,rfl,FrMon.zero _ _,hFe⟩
 subst he
 have had:=addR_zero hMok.memOk har
 have harh:=Lib.hid har
 by_cases ht : m.tag=1000000
 ·skip
  have q2 : (m.tag == 1000000)=true:=by rw [ht];rfl
  have hres:=Lib.hid (allocM_full hok (by rw [har]) ht : allocM m size=_)
  clear hok hMok had har ht
  go_enter Try.func6,Try.ntmps6
  obtain ⟨bM_0,bM_1,bM_2,bM_3,bM_4,bM_5,bM_l⟩:=bM.c6
  go_wp2_with fail
  clear bM_0 bM_1 bM_2 bM_3 bM_4 bM_5 bM_l
  refine (mon_Check' (hA.out.ext hE0) hn.out (hK.out.ext hE0) (hR.out.ext hE0)).mono ?_
  rintro e w1 ⟨rfl,hE1⟩
  replace bM:=bM.ext hE1
  replace bR:=bR.ext hE1
  replace bP:=bP.ext hE1
  have hF1:=Ext.trans hE0 hE1
  rw [hce.out]
  clear hw0
  obtain ⟨bM_0,bM_1,bM_2,bM_3,bM_4,bM_5,bM_l⟩:=bM.c6
  go_wp2_with fail
  clear bM_0 bM_1 bM_2 bM_3 bM_4 bM_5 bM_l
  have hXas:=Lib.hid (by have:=bP.lt;omega : w.heap.size+3≤w1.heap.size)
  refine (allocs_Add size (hA.out.ext hF1) hn.out).mono ?_
  rintro e w2 ⟨v,rfl,fM,hE2⟩
  replace bM:=bM.ext hE2
  replace bR:=bR.ext hE2
  replace bP:=bP.ext hE2
  have hF2:=Ext.trans hF1 hE2
  rw [harh.out] at fM ⊢
  obtain ⟨sx,rfl,hx⟩:=FrM.fs fM
  clear fM
  have hv:=hx.read.form
  obtain ⟨xa,xc,rfl,-⟩:=hv
  dsimp only at hx ⊢
  replace hx:=Lib.hid hx
  have hXa:=Lib.hid (ExtBut.refl (fun b=>w.heap.size≤b∧b < w.heap.size+3) w2)
  obtain ⟨bM_0,bM_1,bM_2,bM_3,bM_4,bM_5,bM_l⟩:=bM.c6
  go_upto_region 8 with fail
  clear bM_0 bM_1 bM_2 bM_3 bM_4 bM_5 bM_l
  have szbQ:=Lib.hid (by have:=bP.lt;omega : w.heap.size+3≤w2.heap.size)
  have bQ:=Box.new w2 24 #[.slice xa x.al.length xc,.int .i64 x.next]
  have hzb0 : (World.alloc w2 (.cells #[.slice xa x.al.length xc,.int .i64 x.next] 24)).heap.size=w2.heap.size+1:=by rw [World.size_alloc]
  have hx3 : Ext w2 (World.alloc w2 (.cells #[.slice xa x.al.length xc,.int .i64 x.next] 24)):=(Ext.refl _).alloc _
  obtain ⟨w3b,hw3⟩ : ∃ z,World.alloc w2 (.cells #[.slice xa x.al.length xc,.int .i64 x.next] 24)=z:=⟨_,rfl⟩
  rw [hw3] at bQ hx3 hzb0 ⊢
  clear hw3
  replace bM:=bM.ext hx3
  replace bR:=bR.ext hx3
  replace bP:=bP.ext hx3
  replace hXa:=Lib.hid (ExtBut.trans hXa.out (ExtBut.of_ext hx3))
  have hF4:=Ext.trans hF2 hx3
  clear hzb0
  obtain ⟨bM_0,bM_1,bM_2,bM_3,bM_4,bM_5,bM_l⟩:=bM.c6
  have bR_0 : World.cell? w3b ⟨w.heap.size+1,0,none⟩=some (.slice none 0 0):=bR.cell 0
  have bR_1 : World.cell? w3b ⟨w.heap.size+1,1,none⟩=some (.int .i64 0):=bR.cell 1
  have bR_2 : World.cell? w3b ⟨w.heap.size+1,2,none⟩=some (.slice none 0 0):=bR.cell 2
  have bR_3 : World.cell? w3b ⟨w.heap.size+1,3,none⟩=some (.slice none 0 0):=bR.cell 3
  have bR_4 : World.cell? w3b ⟨w.heap.size+1,4,none⟩=some (.int .i64 0):=bR.cell 4
  have bR_5 : World.cell? w3b ⟨w.heap.size+1,5,none⟩=some (.int .i64 0):=bR.cell 5
  have bR_f0 : World.frozen? w3b ⟨w.heap.size+1,0,none⟩=false:=bR.frozen 0
  have bR_f1 : World.frozen? w3b ⟨w.heap.size+1,1,none⟩=false:=bR.frozen 1
  have bR_f2 : World.frozen? w3b ⟨w.heap.size+1,2,none⟩=false:=bR.frozen 2
  have bR_f3 : World.frozen? w3b ⟨w.heap.size+1,3,none⟩=false:=bR.frozen 3
  have bR_f4 : World.frozen? w3b ⟨w.heap.size+1,4,none⟩=false:=bR.frozen 4
  have bR_f5 : World.frozen? w3b ⟨w.heap.size+1,5,none⟩=false:=bR.frozen 5
  have bR_l:=bR.lt
  have bP_0 : World.cell? w3b ⟨w.heap.size+2,0,none⟩=some (.int .i64 0):=bP.cell 0
  have bP_1 : World.cell? w3b ⟨w.heap.size+2,1,none⟩=some (.int .i64 0):=bP.cell 1
  have bP_2 : World.cell? w3b ⟨w.heap.size+2,2,none⟩=some (.int .i64 0):=bP.cell 2
  have bP_f0 : World.frozen? w3b ⟨w.heap.size+2,0,none⟩=false:=bP.frozen 0
  have bP_f1 : World.frozen? w3b ⟨w.heap.size+2,1,none⟩=false:=bP.frozen 1
  have bP_f2 : World.frozen? w3b ⟨w.heap.size+2,2,none⟩=false:=bP.frozen 2
  have bP_l:=bP.lt
  go_wp2
  rw [hres.out]
  have hXe : ExtBut (fun b=>w.heap.size≤b∧b < w.heap.size+3) w3b (World.setCell (World.setCell (World.setCell (World.setCell (World.setCell (World.setCell (World.setCell (World.setCell (World.setCell w3b ⟨w.heap.size+1,0,none⟩ (.slice none 0 0)) ⟨w.heap.size+1,1,none⟩ (.int .i64 0)) ⟨w.heap.size+1,2,none⟩ (.slice none 0 0)) ⟨w.heap.size+1,3,none⟩ (.slice none 0 0)) ⟨w.heap.size+1,4,none⟩ (.int .i64 0)) ⟨w.heap.size+1,5,none⟩ (.int .i64 0)) ⟨w.heap.size+2,0,none⟩ (.int .i64 0)) ⟨w.heap.size+2,1,none⟩ (.int .i64 0)) ⟨w.heap.size+2,2,none⟩ (.int .i64 0)):=by (repeat' with_reducible first | exact ExtBut.refl _ _ | refine ExtBut.dr ?_ | refine ExtBut.sc ?_ ?_ | fail) <;> dsimp only <;> omega
  refine bodyPost_ret (v := .tuple #[.agg #[.slice none 0 0,.int .i64 0,.slice none 0 0,.slice none 0 0,.int .i64 0,.int .i64 0],.agg #[.int .i64 0,.int .i64 0,.int .i64 0],.int .i64 18]) (by simp [results,Try.f6,go_sem,bR_0,bR_1,bR_2,bR_3,bR_4,bR_5,bP_0,bP_1,bP_2]) rfl ?_
  have hFe:=ExtBut.ext hF4 hXe (fun b h=>h.1)
  have hXae:=ExtBut.trans hXa.out hXe
  exact ⟨_,rfl,FrMon.zero _ _,hFe⟩
 have q2 : (m.tag == 1000000)=false:=beq_eq_false_iff_ne.2 ht
 have hres:=allocM_ok hok (by rw [har]) ht (size:=size)
 rw [har] at hres
 have htb:=hMok.tag
 have w1 : IntKind.i64.wrap (m.tag+1)=m.tag+1:=IntWalk.i64_in _ (by omega)
 have hnb : Hid (0≤n∧n≤1000000):=Hid.mk had.2.2.2.1
 have hsb : Hid (1≤size∧size≤2):=Hid.mk ⟨had.2.1,had.2.2.1⟩
 have htB : Hid (inB m.tag=true):=Hid.mk (by simp [inB];omega)
 have hll:=Lib.hid (by rw [hMok.len];exact had.2.2.2.2.1 : m.stks.length < 400)
 obtain ⟨BS,hBS⟩ : ∃ z,based size.toNat m.tag=z:=⟨_,rfl⟩
 rw [hBS] at hres
 replace hres:=Lib.hid hres;replace hBS:=Lib.hid hBS
 clear hok hMok had har ht htb
 obtain ⟨ii,iz,hi,hz,hi3,hz3,hby⟩:=Stacks.infoE
 replace hi:=Lib.hid hi;replace hz:=Lib.hid hz;replace hi3:=Lib.hid hi3;replace hz3:=Lib.hid hz3;replace hby:=Lib.hid hby
 go_enter Try.func6,Try.ntmps6
 obtain ⟨bM_0,bM_1,bM_2,bM_3,bM_4,bM_5,bM_l⟩:=bM.c6
 go_wp2_with fail
 clear bM_0 bM_1 bM_2 bM_3 bM_4 bM_5 bM_l
 refine (mon_Check' (hA.out.ext hE0) hn.out (hK.out.ext hE0) (hR.out.ext hE0)).mono ?_
 rintro e w1 ⟨rfl,hE1⟩
 replace bM:=bM.ext hE1
 replace bR:=bR.ext hE1
 replace bP:=bP.ext hE1
 have hF1:=Ext.trans hE0 hE1
 rw [hce.out]
 clear hw0
 obtain ⟨bM_0,bM_1,bM_2,bM_3,bM_4,bM_5,bM_l⟩:=bM.c6
 go_wp2_with fail
 clear bM_0 bM_1 bM_2 bM_3 bM_4 bM_5 bM_l
 have hXas:=Lib.hid (by have:=bP.lt;omega : w.heap.size+3≤w1.heap.size)
 refine (allocs_Add size (hA.out.ext hF1) hn.out).mono ?_
 rintro e w2 ⟨v,rfl,fM,hE2⟩
 replace bM:=bM.ext hE2
 replace bR:=bR.ext hE2
 replace bP:=bP.ext hE2
 have hF2:=Ext.trans hF1 hE2
 rw [harh.out] at fM ⊢
 obtain ⟨sx,rfl,hx⟩:=FrM.fs fM
 clear fM
 have hv:=hx.read.form
 obtain ⟨xa,xc,rfl,-⟩:=hv
 dsimp only at hx ⊢
 replace hx:=Lib.hid hx
 have hXa:=Lib.hid (ExtBut.refl (fun b=>w.heap.size≤b∧b < w.heap.size+3) w2)
 obtain ⟨bM_0,bM_1,bM_2,bM_3,bM_4,bM_5,bM_l⟩:=bM.c6
 go_wp2_with fail
 clear bM_0 bM_1 bM_2 bM_3 bM_4 bM_5 bM_l
 have szbQ:=Lib.hid (by have:=bP.lt;omega : w.heap.size+3≤w2.heap.size)
 have bQ:=Box.new w2 24 #[.slice xa x.al.length xc,.int .i64 x.next]
 have hzb0 : (World.alloc w2 (.cells #[.slice xa x.al.length xc,.int .i64 x.next] 24)).heap.size=w2.heap.size+1:=by rw [World.size_alloc]
 have hx3 : Ext w2 (World.alloc w2 (.cells #[.slice xa x.al.length xc,.int .i64 x.next] 24)):=(Ext.refl _).alloc _
 obtain ⟨w3b,hw3⟩ : ∃ z,World.alloc w2 (.cells #[.slice xa x.al.length xc,.int .i64 x.next] 24)=z:=⟨_,rfl⟩
 rw [hw3] at bQ hx3 hzb0 ⊢
 clear hw3
 replace bM:=bM.ext hx3
 replace bR:=bR.ext hx3
 replace bP:=bP.ext hx3
 replace hXa:=Lib.hid (ExtBut.trans hXa.out (ExtBut.of_ext hx3))
 have hF4:=Ext.trans hF2 hx3
 clear hzb0
 have hXks:=Lib.hid (by have:=bP.lt;omega : w.heap.size+3≤w3b.heap.size)
 have hXa_hXk:=Lib.hid hXa.out.size
 refine (stacks_New_go n size m.tag _ hnb.out hsb.out htB.out).mono ?_
 rintro e w5 ⟨vk,us,rfl,hOk,hE5⟩
 replace bM:=bM.ext hE5
 replace bR:=bR.ext hE5
 replace bP:=bP.ext hE5
 replace bQ:=bQ.ext hE5
 replace hXa:=Lib.hid (ExtBut.trans hXa.out (ExtBut.of_ext hE5))
 have hF5:=Ext.trans hF4 hE5
 rw [hBS.out] at hOk
 have hk:=OwnS.fs hOk
 clear hOk
 have hv:=hk.read.form
 obtain ⟨ska,skc,rfl,-⟩:=hv
 dsimp only at hk ⊢
 replace hk:=Lib.hid hk
 have hXk:=Lib.hid (ExtBut.refl (fun b=>w.heap.size≤b∧b < w.heap.size+3) w5)
 have hKs:=Lib.hid (hE5.size)
 obtain ⟨bM_0,bM_1,bM_2,bM_3,bM_4,bM_5,bM_l⟩:=bM.c6
 go_wp2_with fail
 clear bM_0 bM_1 bM_2 bM_3 bM_4 bM_5 bM_l
 have szbX:=Lib.hid (by have:=bP.lt;omega : w.heap.size+3≤w5.heap.size)
 have bX:=Box.new w5 58 #[.int .i64 n,.slice ska BS.length skc]
 have hzb0 : (World.alloc w5 (.cells #[.int .i64 n,.slice ska BS.length skc] 58)).heap.size=w5.heap.size+1:=by rw [World.size_alloc]
 have hx6 : Ext w5 (World.alloc w5 (.cells #[.int .i64 n,.slice ska BS.length skc] 58)):=(Ext.refl _).alloc _
 obtain ⟨w6b,hw6⟩ : ∃ z,World.alloc w5 (.cells #[.int .i64 n,.slice ska BS.length skc] 58)=z:=⟨_,rfl⟩
 rw [hw6] at bX hx6 hzb0 ⊢
 clear hw6
 replace bM:=bM.ext hx6
 replace bR:=bR.ext hx6
 replace bP:=bP.ext hx6
 replace bQ:=bQ.ext hx6
 replace hXa:=Lib.hid (ExtBut.trans hXa.out (ExtBut.of_ext hx6))
 replace hXk:=Lib.hid (ExtBut.trans hXk.out (ExtBut.of_ext hx6))
 have hF7:=Ext.trans hF5 hx6
 have szbPp:=szbX
 have bPp:=Box.new w6b 32 #[.int .i64 n,.int .i64 0,.int .i64 m.tag]
 rw [hzb0] at bPp
 have hzb1 : (World.alloc w6b (.cells #[.int .i64 n,.int .i64 0,.int .i64 m.tag] 32)).heap.size=w5.heap.size+2:=by rw [World.size_alloc,hzb0]
 have hx8 : Ext w6b (World.alloc w6b (.cells #[.int .i64 n,.int .i64 0,.int .i64 m.tag] 32)):=(Ext.refl _).alloc _
 obtain ⟨w8b,hw8⟩ : ∃ z,World.alloc w6b (.cells #[.int .i64 n,.int .i64 0,.int .i64 m.tag] 32)=z:=⟨_,rfl⟩
 rw [hw8] at bPp hx8 hzb1 ⊢
 clear hw8 hzb0
 replace bM:=bM.ext hx8
 replace bR:=bR.ext hx8
 replace bP:=bP.ext hx8
 replace bQ:=bQ.ext hx8
 replace bX:=bX.ext hx8
 replace hXa:=Lib.hid (ExtBut.trans hXa.out (ExtBut.of_ext hx8))
 replace hXk:=Lib.hid (ExtBut.trans hXk.out (ExtBut.of_ext hx8))
 have hF9:=Ext.trans hF7 hx8
 clear hzb1
 have hPl:=Lib.hid bPp.lt
 have hXcs:=Lib.hid (by have:=bP.lt;omega : w.heap.size+3≤w8b.heap.size)
 have hXa_hXc:=Lib.hid hXa.out.size
 have hXk_hXc:=Lib.hid hXk.out.size
 refine (monitor_clone (hA.out.ext hF9) (hK.out.ext hF9) (hR.out.ext hF9) hcl.out.1 hcl.out.2.1 hcl.out.2.2).mono ?_
 rintro e w10 ⟨c,ca,ck,cr,vs,rfl,hC,hE10⟩
 replace bM:=bM.ext hE10
 replace bR:=bR.ext hE10
 replace bP:=bP.ext hE10
 replace bQ:=bQ.ext hE10
 replace bX:=bX.ext hE10
 replace bPp:=bPp.ext hE10
 replace hXa:=Lib.hid (ExtBut.trans hXa.out (ExtBut.of_ext hE10))
 replace hXk:=Lib.hid (ExtBut.trans hXk.out (ExtBut.of_ext hE10))
 have hF10:=Ext.trans hF9 hE10
 have hv:=hC.al.read.form
 obtain ⟨ca,cac,rfl,-⟩:=hv
 have hv:=hC.outer.sl.slice_form
 obtain ⟨ck,ckc,rfl,-⟩:=hv
 have hv:=hC.run.read.form
 obtain ⟨cr,crc,rfl,-⟩:=hv
 replace hC:=Lib.hid hC
 have hXc:=Lib.hid (ExtBut.refl (fun b=>w.heap.size≤b∧b < w.heap.size+3) w10)
 have bM_0 : World.cell? w10 ⟨w.heap.size,0,none⟩=some (.slice aa m.mem.al.length ac):=bM.cell 0
 have bM_1 : World.cell? w10 ⟨w.heap.size,1,none⟩=some (.int .i64 m.mem.next):=bM.cell 1
 have bM_2 : World.cell? w10 ⟨w.heap.size,2,none⟩=some (.slice ka m.stks.length kc):=bM.cell 2
 have bM_3 : World.cell? w10 ⟨w.heap.size,3,none⟩=some (.slice ra m.run.length rc):=bM.cell 3
 have bM_4 : World.cell? w10 ⟨w.heap.size,4,none⟩=some (.int .i64 m.tag):=bM.cell 4
 have bM_5 : World.cell? w10 ⟨w.heap.size,5,none⟩=some (.int .i64 m.call):=bM.cell 5
 have bM_f0 : World.frozen? w10 ⟨w.heap.size,0,none⟩=false:=bM.frozen 0
 have bM_f1 : World.frozen? w10 ⟨w.heap.size,1,none⟩=false:=bM.frozen 1
 have bM_f2 : World.frozen? w10 ⟨w.heap.size,2,none⟩=false:=bM.frozen 2
 have bM_f3 : World.frozen? w10 ⟨w.heap.size,3,none⟩=false:=bM.frozen 3
 have bM_f4 : World.frozen? w10 ⟨w.heap.size,4,none⟩=false:=bM.frozen 4
 have bM_f5 : World.frozen? w10 ⟨w.heap.size,5,none⟩=false:=bM.frozen 5
 have bM_l:=bM.lt
 go_upto_region 12 with fail
 clear bM_0 bM_1 bM_2 bM_3 bM_4 bM_5 bM_f0 bM_f1 bM_f2 bM_f3 bM_f4 bM_f5 bM_l
 have hS11 : ExtBut (fun b=>w.heap.size≤b∧b < w.heap.size+3) w10 (World.setCell (World.setCell (World.setCell (World.setCell (World.setCell (World.setCell w10 ⟨w.heap.size,0,none⟩ (.slice ca m.mem.al.length cac)) ⟨w.heap.size,1,none⟩ (.int .i64 m.mem.next)) ⟨w.heap.size,2,none⟩ (.slice ck m.stks.length ckc)) ⟨w.heap.size,3,none⟩ (.slice cr m.run.length crc)) ⟨w.heap.size,4,none⟩ (.int .i64 m.tag)) ⟨w.heap.size,5,none⟩ (.int .i64 m.call)):=by (repeat' with_reducible first | exact ExtBut.refl _ _ | refine ExtBut.dr ?_ | refine ExtBut.sc ?_ ?_ | fail) <;> dsimp only <;> omega
 replace bM:=(Box.setL (Box.setL (Box.setL (Box.setL (Box.setL (Box.setL bM 0 (.slice ca m.mem.al.length cac)) 1 (.int .i64 m.mem.next)) 2 (.slice ck m.stks.length ckc)) 3 (.slice cr m.run.length crc)) 4 (.int .i64 m.tag)) 5 (.int .i64 m.call))
 simp only [List.set_cons_zero,List.set_cons_succ] at bM
 replace bR:=(Box.other (Box.other (Box.other (Box.other (Box.other (Box.other bR (p:=⟨w.heap.size,0,none⟩) (by simp) (.slice ca m.mem.al.length cac)) (p:=⟨w.heap.size,1,none⟩) (by simp) (.int .i64 m.mem.next)) (p:=⟨w.heap.size,2,none⟩) (by simp) (.slice ck m.stks.length ckc)) (p:=⟨w.heap.size,3,none⟩) (by simp) (.slice cr m.run.length crc)) (p:=⟨w.heap.size,4,none⟩) (by simp) (.int .i64 m.tag)) (p:=⟨w.heap.size,5,none⟩) (by simp) (.int .i64 m.call))
 replace bP:=(Box.other (Box.other (Box.other (Box.other (Box.other (Box.other bP (p:=⟨w.heap.size,0,none⟩) (by simp) (.slice ca m.mem.al.length cac)) (p:=⟨w.heap.size,1,none⟩) (by simp) (.int .i64 m.mem.next)) (p:=⟨w.heap.size,2,none⟩) (by simp) (.slice ck m.stks.length ckc)) (p:=⟨w.heap.size,3,none⟩) (by simp) (.slice cr m.run.length crc)) (p:=⟨w.heap.size,4,none⟩) (by simp) (.int .i64 m.tag)) (p:=⟨w.heap.size,5,none⟩) (by simp) (.int .i64 m.call))
 replace bQ:=(Box.other (Box.other (Box.other (Box.other (Box.other (Box.other bQ (p:=⟨w.heap.size,0,none⟩) (by have:=szbQ.out;show w.heap.size≠w2.heap.size;omega) (.slice ca m.mem.al.length cac)) (p:=⟨w.heap.size,1,none⟩) (by have:=szbQ.out;show w.heap.size≠w2.heap.size;omega) (.int .i64 m.mem.next)) (p:=⟨w.heap.size,2,none⟩) (by have:=szbQ.out;show w.heap.size≠w2.heap.size;omega) (.slice ck m.stks.length ckc)) (p:=⟨w.heap.size,3,none⟩) (by have:=szbQ.out;show w.heap.size≠w2.heap.size;omega) (.slice cr m.run.length crc)) (p:=⟨w.heap.size,4,none⟩) (by have:=szbQ.out;show w.heap.size≠w2.heap.size;omega) (.int .i64 m.tag)) (p:=⟨w.heap.size,5,none⟩) (by have:=szbQ.out;show w.heap.size≠w2.heap.size;omega) (.int .i64 m.call))
 replace bX:=(Box.other (Box.other (Box.other (Box.other (Box.other (Box.other bX (p:=⟨w.heap.size,0,none⟩) (by have:=szbX.out;show w.heap.size≠w5.heap.size;omega) (.slice ca m.mem.al.length cac)) (p:=⟨w.heap.size,1,none⟩) (by have:=szbX.out;show w.heap.size≠w5.heap.size;omega) (.int .i64 m.mem.next)) (p:=⟨w.heap.size,2,none⟩) (by have:=szbX.out;show w.heap.size≠w5.heap.size;omega) (.slice ck m.stks.length ckc)) (p:=⟨w.heap.size,3,none⟩) (by have:=szbX.out;show w.heap.size≠w5.heap.size;omega) (.slice cr m.run.length crc)) (p:=⟨w.heap.size,4,none⟩) (by have:=szbX.out;show w.heap.size≠w5.heap.size;omega) (.int .i64 m.tag)) (p:=⟨w.heap.size,5,none⟩) (by have:=szbX.out;show w.heap.size≠w5.heap.size;omega) (.int .i64 m.call))
 replace bPp:=(Box.other (Box.other (Box.other (Box.other (Box.other (Box.other bPp (p:=⟨w.heap.size,0,none⟩) (by have:=szbPp.out;show w.heap.size≠w5.heap.size+1;omega) (.slice ca m.mem.al.length cac)) (p:=⟨w.heap.size,1,none⟩) (by have:=szbPp.out;show w.heap.size≠w5.heap.size+1;omega) (.int .i64 m.mem.next)) (p:=⟨w.heap.size,2,none⟩) (by have:=szbPp.out;show w.heap.size≠w5.heap.size+1;omega) (.slice ck m.stks.length ckc)) (p:=⟨w.heap.size,3,none⟩) (by have:=szbPp.out;show w.heap.size≠w5.heap.size+1;omega) (.slice cr m.run.length crc)) (p:=⟨w.heap.size,4,none⟩) (by have:=szbPp.out;show w.heap.size≠w5.heap.size+1;omega) (.int .i64 m.tag)) (p:=⟨w.heap.size,5,none⟩) (by have:=szbPp.out;show w.heap.size≠w5.heap.size+1;omega) (.int .i64 m.call))
 obtain ⟨w11s,hw11⟩ : ∃ z,(World.setCell (World.setCell (World.setCell (World.setCell (World.setCell (World.setCell w10 ⟨w.heap.size,0,none⟩ (.slice ca m.mem.al.length cac)) ⟨w.heap.size,1,none⟩ (.int .i64 m.mem.next)) ⟨w.heap.size,2,none⟩ (.slice ck m.stks.length ckc)) ⟨w.heap.size,3,none⟩ (.slice cr m.run.length crc)) ⟨w.heap.size,4,none⟩ (.int .i64 m.tag)) ⟨w.heap.size,5,none⟩ (.int .i64 m.call))=z:=⟨_,rfl⟩
 rw [hw11] at hS11 bM bR bP bQ bX bPp ⊢
 clear hw11
 have hF11:=ExtBut.ext hF10 hS11 (fun b h=>h.1)
 replace hXa:=Lib.hid (ExtBut.trans hXa.out hS11)
 replace hXk:=Lib.hid (ExtBut.trans hXk.out hS11)
 replace hXc:=Lib.hid (ExtBut.trans hXc.out hS11)
 clear hS11
 have bM_0 : World.cell? w11s ⟨w.heap.size,0,none⟩=some (.slice ca m.mem.al.length cac):=bM.cell 0
 have bM_1 : World.cell? w11s ⟨w.heap.size,1,none⟩=some (.int .i64 m.mem.next):=bM.cell 1
 have bM_2 : World.cell? w11s ⟨w.heap.size,2,none⟩=some (.slice ck m.stks.length ckc):=bM.cell 2
 have bM_3 : World.cell? w11s ⟨w.heap.size,3,none⟩=some (.slice cr m.run.length crc):=bM.cell 3
 have bM_4 : World.cell? w11s ⟨w.heap.size,4,none⟩=some (.int .i64 m.tag):=bM.cell 4
 have bM_5 : World.cell? w11s ⟨w.heap.size,5,none⟩=some (.int .i64 m.call):=bM.cell 5
 have bM_f0 : World.frozen? w11s ⟨w.heap.size,0,none⟩=false:=bM.frozen 0
 have bM_f1 : World.frozen? w11s ⟨w.heap.size,1,none⟩=false:=bM.frozen 1
 have bM_f2 : World.frozen? w11s ⟨w.heap.size,2,none⟩=false:=bM.frozen 2
 have bM_f3 : World.frozen? w11s ⟨w.heap.size,3,none⟩=false:=bM.frozen 3
 have bM_f4 : World.frozen? w11s ⟨w.heap.size,4,none⟩=false:=bM.frozen 4
 have bM_f5 : World.frozen? w11s ⟨w.heap.size,5,none⟩=false:=bM.frozen 5
 have bM_l:=bM.lt
 obtain ⟨bQ_0,bQ_1,bQ_l⟩:=bQ.c2
 go_upto_region 13 with fail
 clear bM_0 bM_1 bM_2 bM_3 bM_4 bM_5 bM_f0 bM_f1 bM_f2 bM_f3 bM_f4 bM_f5 bM_l bQ_0 bQ_1 bQ_l
 have hS12 : ExtBut (fun b=>w.heap.size≤b∧b < w.heap.size+3) w11s (World.setCell (World.setCell w11s ⟨w.heap.size,0,none⟩ (.slice xa x.al.length xc)) ⟨w.heap.size,1,none⟩ (.int .i64 x.next)):=by (repeat' with_reducible first | exact ExtBut.refl _ _ | refine ExtBut.dr ?_ | refine ExtBut.sc ?_ ?_ | fail) <;> dsimp only <;> omega
 replace bM:=(Box.setL (Box.setL bM 0 (.slice xa x.al.length xc)) 1 (.int .i64 x.next))
 simp only [List.set_cons_zero,List.set_cons_succ] at bM
 replace bR:=(Box.other (Box.other bR (p:=⟨w.heap.size,0,none⟩) (by simp) (.slice xa x.al.length xc)) (p:=⟨w.heap.size,1,none⟩) (by simp) (.int .i64 x.next))
 replace bP:=(Box.other (Box.other bP (p:=⟨w.heap.size,0,none⟩) (by simp) (.slice xa x.al.length xc)) (p:=⟨w.heap.size,1,none⟩) (by simp) (.int .i64 x.next))
 replace bQ:=(Box.other (Box.other bQ (p:=⟨w.heap.size,0,none⟩) (by have:=szbQ.out;show w.heap.size≠w2.heap.size;omega) (.slice xa x.al.length xc)) (p:=⟨w.heap.size,1,none⟩) (by have:=szbQ.out;show w.heap.size≠w2.heap.size;omega) (.int .i64 x.next))
 replace bX:=(Box.other (Box.other bX (p:=⟨w.heap.size,0,none⟩) (by have:=szbX.out;show w.heap.size≠w5.heap.size;omega) (.slice xa x.al.length xc)) (p:=⟨w.heap.size,1,none⟩) (by have:=szbX.out;show w.heap.size≠w5.heap.size;omega) (.int .i64 x.next))
 replace bPp:=(Box.other (Box.other bPp (p:=⟨w.heap.size,0,none⟩) (by have:=szbPp.out;show w.heap.size≠w5.heap.size+1;omega) (.slice xa x.al.length xc)) (p:=⟨w.heap.size,1,none⟩) (by have:=szbPp.out;show w.heap.size≠w5.heap.size+1;omega) (.int .i64 x.next))
 obtain ⟨w12s,hw12⟩ : ∃ z,(World.setCell (World.setCell w11s ⟨w.heap.size,0,none⟩ (.slice xa x.al.length xc)) ⟨w.heap.size,1,none⟩ (.int .i64 x.next))=z:=⟨_,rfl⟩
 rw [hw12] at hS12 bM bR bP bQ bX bPp ⊢
 clear hw12
 have hF12:=ExtBut.ext hF11 hS12 (fun b h=>h.1)
 replace hXa:=Lib.hid (ExtBut.trans hXa.out hS12)
 replace hXk:=Lib.hid (ExtBut.trans hXk.out hS12)
 replace hXc:=Lib.hid (ExtBut.trans hXc.out hS12)
 clear hS12
 have hOK : OwnK w12s w3b.heap.size (.slice ck m.stks.length ckc) vs m.stks:=OwnK.mono (OwnK.but (Cloned.own hC.out) hXc.out (fun b h1 h2=>by have:=hXcs.out;omega)) (by have h1:=hXk_hXc.out;have h2:=hKs.out;omega)
 have hRun : Fq (fun b=>w.heap.size+3≤b∧(Value.slice ck m.stks.length ckc).ownBlock≠some b) w12s (fun w=>Nts w (.slice cr m.run.length crc) m.run):=hC.out.run.to hXc.out (fun b h1 _ h2=>by have:=hXcs.out;omega) (fun b h1 _=>⟨by have:=hXcs.out;omega,fun e=>by have:=hC.out.out0 b e;omega⟩)
 have hMem : Fq (fun b=>w.heap.size+3≤b∧(Value.slice ck m.stks.length ckc).ownBlock≠some b) w12s (fun w=>Als w (.slice xa x.al.length xc) x.al):=hx.out.to hXa.out (fun b h1 _ h2=>by have:=hXas.out;omega) (fun b h1 h2=>⟨by have:=hXas.out;omega,fun e=>by have h3:=(hC.out.outer.lt e).1;have h4:=hXa_hXc.out;omega⟩)
 have hStk : Fq (fun b=>w3b.heap.size≤b∧(Value.slice ck m.stks.length ckc).ownBlock≠some b) w12s (fun w=>Sts w (.slice ska BS.length skc) BS):=hk.out.to hXk.out (fun b h1 _ h2=>by have:=hXks.out;omega) (fun b h1 h2=>⟨h1,fun e=>by have h3:=(hC.out.outer.lt e).1;have h4:=hXk_hXc.out;omega⟩)
 replace hOK:=Lib.hid hOK;replace hRun:=Lib.hid hRun;replace hMem:=Lib.hid hMem;replace hStk:=Lib.hid hStk
 have hB : Hid (w3b.heap.size≤w12s.heap.size):=Hid.mk (by have h1:=hXk.out.size;have h2:=hKs.out;omega)
 have bM_0 : World.cell? w12s ⟨w.heap.size,0,none⟩=some (.slice xa x.al.length xc):=bM.cell 0
 have bM_1 : World.cell? w12s ⟨w.heap.size,1,none⟩=some (.int .i64 x.next):=bM.cell 1
 have bM_2 : World.cell? w12s ⟨w.heap.size,2,none⟩=some (.slice ck m.stks.length ckc):=bM.cell 2
 have bM_3 : World.cell? w12s ⟨w.heap.size,3,none⟩=some (.slice cr m.run.length crc):=bM.cell 3
 have bM_4 : World.cell? w12s ⟨w.heap.size,4,none⟩=some (.int .i64 m.tag):=bM.cell 4
 have bM_5 : World.cell? w12s ⟨w.heap.size,5,none⟩=some (.int .i64 m.call):=bM.cell 5
 have bM_f0 : World.frozen? w12s ⟨w.heap.size,0,none⟩=false:=bM.frozen 0
 have bM_f1 : World.frozen? w12s ⟨w.heap.size,1,none⟩=false:=bM.frozen 1
 have bM_f2 : World.frozen? w12s ⟨w.heap.size,2,none⟩=false:=bM.frozen 2
 have bM_f3 : World.frozen? w12s ⟨w.heap.size,3,none⟩=false:=bM.frozen 3
 have bM_f4 : World.frozen? w12s ⟨w.heap.size,4,none⟩=false:=bM.frozen 4
 have bM_f5 : World.frozen? w12s ⟨w.heap.size,5,none⟩=false:=bM.frozen 5
 have bM_l:=bM.lt
 obtain ⟨bX_0,bX_1,bX_l⟩:=bX.c2
 go_wp2_with (at_builtin;refine Hid.out ?_)
 clear bM_0 bM_1 bM_2 bM_3 bM_4 bM_5 bM_f0 bM_f1 bM_f2 bM_f3 bM_f4 bM_f5 bM_l bX_0 bX_1 bX_l
 refine Hid.mk ?_
 have hEx : Ext w12s (World.alloc w12s (.cells #[.int .i64 n,.slice ska BS.length skc] 58)):=(Ext.refl _).alloc _
 have hlit : Sl (World.alloc w12s (.cells #[.int .i64 n,.slice ska BS.length skc] 58)) 2 (.slice (some ⟨w12s.heap.size,0,none⟩) 1 1) 1 (krow (.slice ska BS.length skc) ⟨n,BS⟩):=(Own.lit' (B:=0) (e:=58) (k:=2) w12s #[.int .i64 n,.slice ska BS.length skc] 1 (Nat.zero_le _) (by simp [maxLen]) rfl).sl
 refine wpList_append_any rfl _ _ 25 25 rfl rfl rfl Try.underlying25 Try.underlying25 hi.out hz.out hi3.out hz3.out (hOK.out.ext hEx).outer hlit (by simp [krow,Value.oneCell']) (by have:=hll.out;simp [maxLen];omega) (by rw [hby.out];have:=hll.out;omega) (Nat.le_trans hB.out hEx.size) ?_
 intro v' wap hO' hK' hb' _
 have hv:=hO'.sl.slice_form
 obtain ⟨va,vc,rfl,-⟩:=hv
 have hP:=OwnK.push (x:=⟨n,BS⟩) (hOK.out.ext hEx) (Fq.ext hStk.out hEx) hO' hK' hb'
 have hRun2:=Fq.keeps (Fq.ext hRun.out hEx) hK' hb'
 have hMem2:=Fq.keeps (Fq.ext hMem.out hEx) hK' hb'
 have hSk:=ExtBut.of_keeps hK'
 have hown : ∀ b,(Value.slice ck m.stks.length ckc).ownBlock=some b→w8b.heap.size≤b:=fun b e=>(hC.out.outer.lt e).1
 replace bM:=Box.but (Box.ext bM hEx) hSk (fun h=>by have h1:=hown _ h;have h2:=hXcs.out;omega)
 replace bR:=Box.but (Box.ext bR hEx) hSk (fun h=>by have h1:=hown _ h;have h2:=hXcs.out;omega)
 replace bP:=Box.but (Box.ext bP hEx) hSk (fun h=>by have h1:=hown _ h;have h2:=hXcs.out;omega)
 replace bPp:=Box.but (Box.ext bPp hEx) hSk (fun h=>by have h1:=hown _ h;have h2:=hPl.out;omega)
 have hFap:=ExtBut.ext (Ext.trans hF12 hEx) hSk (fun b h=>by have h1:=hown b h;have h2:=hXcs.out;omega)
 replace hP:=Lib.hid hP;replace hRun2:=Lib.hid hRun2;replace hMem2:=Lib.hid hMem2
 clear hO' hK' hb' hSk hown hlit hEx hOK hRun hMem hStk bQ bX hXa hXk hXc
 have hXz:=Lib.hid (ExtBut.refl (fun b=>w.heap.size≤b∧b < w.heap.size+3) wap)
 have bM_0 : World.cell? wap ⟨w.heap.size,0,none⟩=some (.slice xa x.al.length xc):=bM.cell 0
 have bM_1 : World.cell? wap ⟨w.heap.size,1,none⟩=some (.int .i64 x.next):=bM.cell 1
 have bM_2 : World.cell? wap ⟨w.heap.size,2,none⟩=some (.slice ck m.stks.length ckc):=bM.cell 2
 have bM_3 : World.cell? wap ⟨w.heap.size,3,none⟩=some (.slice cr m.run.length crc):=bM.cell 3
 have bM_4 : World.cell? wap ⟨w.heap.size,4,none⟩=some (.int .i64 m.tag):=bM.cell 4
 have bM_5 : World.cell? wap ⟨w.heap.size,5,none⟩=some (.int .i64 m.call):=bM.cell 5
 have bM_f0 : World.frozen? wap ⟨w.heap.size,0,none⟩=false:=bM.frozen 0
 have bM_f1 : World.frozen? wap ⟨w.heap.size,1,none⟩=false:=bM.frozen 1
 have bM_f2 : World.frozen? wap ⟨w.heap.size,2,none⟩=false:=bM.frozen 2
 have bM_f3 : World.frozen? wap ⟨w.heap.size,3,none⟩=false:=bM.frozen 3
 have bM_f4 : World.frozen? wap ⟨w.heap.size,4,none⟩=false:=bM.frozen 4
 have bM_f5 : World.frozen? wap ⟨w.heap.size,5,none⟩=false:=bM.frozen 5
 have bM_l:=bM.lt
 go_upto_region 14 with fail
 clear bM_0 bM_1 bM_2 bM_3 bM_4 bM_5 bM_f0 bM_f1 bM_f2 bM_f3 bM_f4 bM_f5 bM_l
 have hS13 : ExtBut (fun b=>w.heap.size≤b∧b < w.heap.size+3) wap (World.setCell wap ⟨w.heap.size,2,none⟩ (.slice va (m.stks.length+1) vc)):=((ExtBut.setCell wap ⟨w.heap.size,2,none⟩ (.slice va (m.stks.length+1) vc)).mono (S':=(fun b=>w.heap.size≤b∧b < w.heap.size+3)) (fun b _ h=>by have h' : b=w.heap.size:=h;omega))
 replace bM:=(Box.setL bM 2 (.slice va (m.stks.length+1) vc))
 simp only [List.set_cons_zero,List.set_cons_succ] at bM
 replace bR:=(Box.other bR (p:=⟨w.heap.size,2,none⟩) (by simp) (.slice va (m.stks.length+1) vc))
 replace bP:=(Box.other bP (p:=⟨w.heap.size,2,none⟩) (by simp) (.slice va (m.stks.length+1) vc))
 replace bPp:=(Box.other bPp (p:=⟨w.heap.size,2,none⟩) (by have:=szbPp.out;show w.heap.size≠w5.heap.size+1;omega) (.slice va (m.stks.length+1) vc))
 obtain ⟨w13s,hw13⟩ : ∃ z,(World.setCell wap ⟨w.heap.size,2,none⟩ (.slice va (m.stks.length+1) vc))=z:=⟨_,rfl⟩
 rw [hw13] at hS13 bM bR bP bPp ⊢
 clear hw13
 have hF13:=ExtBut.ext hFap hS13 (fun b h=>h.1)
 replace hXz:=Lib.hid (ExtBut.trans hXz.out hS13)
 clear hS13
 have bM_0 : World.cell? w13s ⟨w.heap.size,0,none⟩=some (.slice xa x.al.length xc):=bM.cell 0
 have bM_1 : World.cell? w13s ⟨w.heap.size,1,none⟩=some (.int .i64 x.next):=bM.cell 1
 have bM_2 : World.cell? w13s ⟨w.heap.size,2,none⟩=some (.slice va (m.stks.length+1) vc):=bM.cell 2
 have bM_3 : World.cell? w13s ⟨w.heap.size,3,none⟩=some (.slice cr m.run.length crc):=bM.cell 3
 have bM_4 : World.cell? w13s ⟨w.heap.size,4,none⟩=some (.int .i64 m.tag):=bM.cell 4
 have bM_5 : World.cell? w13s ⟨w.heap.size,5,none⟩=some (.int .i64 m.call):=bM.cell 5
 have bM_f0 : World.frozen? w13s ⟨w.heap.size,0,none⟩=false:=bM.frozen 0
 have bM_f1 : World.frozen? w13s ⟨w.heap.size,1,none⟩=false:=bM.frozen 1
 have bM_f2 : World.frozen? w13s ⟨w.heap.size,2,none⟩=false:=bM.frozen 2
 have bM_f3 : World.frozen? w13s ⟨w.heap.size,3,none⟩=false:=bM.frozen 3
 have bM_f4 : World.frozen? w13s ⟨w.heap.size,4,none⟩=false:=bM.frozen 4
 have bM_f5 : World.frozen? w13s ⟨w.heap.size,5,none⟩=false:=bM.frozen 5
 have bM_l:=bM.lt
 go_upto_region 15 with fail
 clear bM_0 bM_1 bM_2 bM_3 bM_4 bM_5 bM_f0 bM_f1 bM_f2 bM_f3 bM_f4 bM_f5 bM_l
 have hS14 : ExtBut (fun b=>w.heap.size≤b∧b < w.heap.size+3) w13s (World.setCell w13s ⟨w.heap.size,4,none⟩ (.int .i64 (m.tag+1))):=((ExtBut.setCell w13s ⟨w.heap.size,4,none⟩ (.int .i64 (m.tag+1))).mono (S':=(fun b=>w.heap.size≤b∧b < w.heap.size+3)) (fun b _ h=>by have h' : b=w.heap.size:=h;omega))
 replace bM:=(Box.setL bM 4 (.int .i64 (m.tag+1)))
 simp only [List.set_cons_zero,List.set_cons_succ] at bM
 replace bR:=(Box.other bR (p:=⟨w.heap.size,4,none⟩) (by simp) (.int .i64 (m.tag+1)))
 replace bP:=(Box.other bP (p:=⟨w.heap.size,4,none⟩) (by simp) (.int .i64 (m.tag+1)))
 replace bPp:=(Box.other bPp (p:=⟨w.heap.size,4,none⟩) (by have:=szbPp.out;show w.heap.size≠w5.heap.size+1;omega) (.int .i64 (m.tag+1)))
 obtain ⟨w14s,hw14⟩ : ∃ z,(World.setCell w13s ⟨w.heap.size,4,none⟩ (.int .i64 (m.tag+1)))=z:=⟨_,rfl⟩
 rw [hw14] at hS14 bM bR bP bPp ⊢
 clear hw14
 have hF14:=ExtBut.ext hF13 hS14 (fun b h=>h.1)
 replace hXz:=Lib.hid (ExtBut.trans hXz.out hS14)
 clear hS14
 obtain ⟨bM_0,bM_1,bM_2,bM_3,bM_4,bM_5,bM_l⟩:=bM.c6
 have bR_0 : World.cell? w14s ⟨w.heap.size+1,0,none⟩=some (.slice none 0 0):=bR.cell 0
 have bR_1 : World.cell? w14s ⟨w.heap.size+1,1,none⟩=some (.int .i64 0):=bR.cell 1
 have bR_2 : World.cell? w14s ⟨w.heap.size+1,2,none⟩=some (.slice none 0 0):=bR.cell 2
 have bR_3 : World.cell? w14s ⟨w.heap.size+1,3,none⟩=some (.slice none 0 0):=bR.cell 3
 have bR_4 : World.cell? w14s ⟨w.heap.size+1,4,none⟩=some (.int .i64 0):=bR.cell 4
 have bR_5 : World.cell? w14s ⟨w.heap.size+1,5,none⟩=some (.int .i64 0):=bR.cell 5
 have bR_f0 : World.frozen? w14s ⟨w.heap.size+1,0,none⟩=false:=bR.frozen 0
 have bR_f1 : World.frozen? w14s ⟨w.heap.size+1,1,none⟩=false:=bR.frozen 1
 have bR_f2 : World.frozen? w14s ⟨w.heap.size+1,2,none⟩=false:=bR.frozen 2
 have bR_f3 : World.frozen? w14s ⟨w.heap.size+1,3,none⟩=false:=bR.frozen 3
 have bR_f4 : World.frozen? w14s ⟨w.heap.size+1,4,none⟩=false:=bR.frozen 4
 have bR_f5 : World.frozen? w14s ⟨w.heap.size+1,5,none⟩=false:=bR.frozen 5
 have bR_l:=bR.lt
 have bP_0 : World.cell? w14s ⟨w.heap.size+2,0,none⟩=some (.int .i64 0):=bP.cell 0
 have bP_1 : World.cell? w14s ⟨w.heap.size+2,1,none⟩=some (.int .i64 0):=bP.cell 1
 have bP_2 : World.cell? w14s ⟨w.heap.size+2,2,none⟩=some (.int .i64 0):=bP.cell 2
 have bP_f0 : World.frozen? w14s ⟨w.heap.size+2,0,none⟩=false:=bP.frozen 0
 have bP_f1 : World.frozen? w14s ⟨w.heap.size+2,1,none⟩=false:=bP.frozen 1
 have bP_f2 : World.frozen? w14s ⟨w.heap.size+2,2,none⟩=false:=bP.frozen 2
 have bP_l:=bP.lt
 obtain ⟨bPp_0,bPp_1,bPp_2,bPp_l⟩:=bPp.c3
 have ne1 : w.heap.size+1≠w5.heap.size+1:=by have:=szbPp.out;omega
 have en1 : w5.heap.size+1≠w.heap.size+1:=by have:=szbPp.out;omega
 have ne2 : w.heap.size+2≠w5.heap.size+1:=by have:=szbPp.out;omega
 have en2 : w5.heap.size+1≠w.heap.size+2:=by have:=szbPp.out;omega
 go_region
 go_wp2
 rw [hres.out]
 have hXe : ExtBut (fun b=>w.heap.size≤b∧b < w.heap.size+3) w14s (World.drew (World.setCell (World.setCell (World.setCell (World.setCell (World.setCell (World.setCell (World.setCell (World.setCell (World.setCell w14s ⟨w.heap.size+1,0,none⟩ (.slice xa x.al.length xc)) ⟨w.heap.size+1,1,none⟩ (.int .i64 x.next)) ⟨w.heap.size+1,2,none⟩ (.slice va (m.stks.length+1) vc)) ⟨w.heap.size+1,3,none⟩ (.slice cr m.run.length crc)) ⟨w.heap.size+1,4,none⟩ (.int .i64 (m.tag+1))) ⟨w.heap.size+1,5,none⟩ (.int .i64 m.call)) ⟨w.heap.size+2,0,none⟩ (.int .i64 n)) ⟨w.heap.size+2,1,none⟩ (.int .i64 0)) ⟨w.heap.size+2,2,none⟩ (.int .i64 m.tag))):=(ExtBut.trans (ExtBut.trans (ExtBut.trans (ExtBut.trans (ExtBut.trans (ExtBut.trans (ExtBut.trans (ExtBut.trans (ExtBut.trans ((ExtBut.setCell w14s ⟨w.heap.size+1,0,none⟩ (.slice xa x.al.length xc)).mono (S':=(fun b=>w.heap.size≤b∧b < w.heap.size+3)) (fun b _ h=>by have h' : b=w.heap.size+1:=h;omega)) ((ExtBut.setCell (World.setCell w14s ⟨w.heap.size+1,0,none⟩ (.slice xa x.al.length xc)) ⟨w.heap.size+1,1,none⟩ (.int .i64 x.next)).mono (S':=(fun b=>w.heap.size≤b∧b < w.heap.size+3)) (fun b _ h=>by have h' : b=w.heap.size+1:=h;omega))) ((ExtBut.setCell (World.setCell (World.setCell w14s ⟨w.heap.size+1,0,none⟩ (.slice xa x.al.length xc)) ⟨w.heap.size+1,1,none⟩ (.int .i64 x.next)) ⟨w.heap.size+1,2,none⟩ (.slice va (m.stks.length+1) vc)).mono (S':=(fun b=>w.heap.size≤b∧b < w.heap.size+3)) (fun b _ h=>by have h' : b=w.heap.size+1:=h;omega))) ((ExtBut.setCell (World.setCell (World.setCell (World.setCell w14s ⟨w.heap.size+1,0,none⟩ (.slice xa x.al.length xc)) ⟨w.heap.size+1,1,none⟩ (.int .i64 x.next)) ⟨w.heap.size+1,2,none⟩ (.slice va (m.stks.length+1) vc)) ⟨w.heap.size+1,3,none⟩ (.slice cr m.run.length crc)).mono (S':=(fun b=>w.heap.size≤b∧b < w.heap.size+3)) (fun b _ h=>by have h' : b=w.heap.size+1:=h;omega))) ((ExtBut.setCell (World.setCell (World.setCell (World.setCell (World.setCell w14s ⟨w.heap.size+1,0,none⟩ (.slice xa x.al.length xc)) ⟨w.heap.size+1,1,none⟩ (.int .i64 x.next)) ⟨w.heap.size+1,2,none⟩ (.slice va (m.stks.length+1) vc)) ⟨w.heap.size+1,3,none⟩ (.slice cr m.run.length crc)) ⟨w.heap.size+1,4,none⟩ (.int .i64 (m.tag+1))).mono (S':=(fun b=>w.heap.size≤b∧b < w.heap.size+3)) (fun b _ h=>by have h' : b=w.heap.size+1:=h;omega))) ((ExtBut.setCell (World.setCell (World.setCell (World.setCell (World.setCell (World.setCell w14s ⟨w.heap.size+1,0,none⟩ (.slice xa x.al.length xc)) ⟨w.heap.size+1,1,none⟩ (.int .i64 x.next)) ⟨w.heap.size+1,2,none⟩ (.slice va (m.stks.length+1) vc)) ⟨w.heap.size+1,3,none⟩ (.slice cr m.run.length crc)) ⟨w.heap.size+1,4,none⟩ (.int .i64 (m.tag+1))) ⟨w.heap.size+1,5,none⟩ (.int .i64 m.call)).mono (S':=(fun b=>w.heap.size≤b∧b < w.heap.size+3)) (fun b _ h=>by have h' : b=w.heap.size+1:=h;omega))) ((ExtBut.setCell (World.setCell (World.setCell (World.setCell (World.setCell (World.setCell (World.setCell w14s ⟨w.heap.size+1,0,none⟩ (.slice xa x.al.length xc)) ⟨w.heap.size+1,1,none⟩ (.int .i64 x.next)) ⟨w.heap.size+1,2,none⟩ (.slice va (m.stks.length+1) vc)) ⟨w.heap.size+1,3,none⟩ (.slice cr m.run.length crc)) ⟨w.heap.size+1,4,none⟩ (.int .i64 (m.tag+1))) ⟨w.heap.size+1,5,none⟩ (.int .i64 m.call)) ⟨w.heap.size+2,0,none⟩ (.int .i64 n)).mono (S':=(fun b=>w.heap.size≤b∧b < w.heap.size+3)) (fun b _ h=>by have h' : b=w.heap.size+2:=h;omega))) ((ExtBut.setCell (World.setCell (World.setCell (World.setCell (World.setCell (World.setCell (World.setCell (World.setCell w14s ⟨w.heap.size+1,0,none⟩ (.slice xa x.al.length xc)) ⟨w.heap.size+1,1,none⟩ (.int .i64 x.next)) ⟨w.heap.size+1,2,none⟩ (.slice va (m.stks.length+1) vc)) ⟨w.heap.size+1,3,none⟩ (.slice cr m.run.length crc)) ⟨w.heap.size+1,4,none⟩ (.int .i64 (m.tag+1))) ⟨w.heap.size+1,5,none⟩ (.int .i64 m.call)) ⟨w.heap.size+2,0,none⟩ (.int .i64 n)) ⟨w.heap.size+2,1,none⟩ (.int .i64 0)).mono (S':=(fun b=>w.heap.size≤b∧b < w.heap.size+3)) (fun b _ h=>by have h' : b=w.heap.size+2:=h;omega))) ((ExtBut.setCell (World.setCell (World.setCell (World.setCell (World.setCell (World.setCell (World.setCell (World.setCell (World.setCell w14s ⟨w.heap.size+1,0,none⟩ (.slice xa x.al.length xc)) ⟨w.heap.size+1,1,none⟩ (.int .i64 x.next)) ⟨w.heap.size+1,2,none⟩ (.slice va (m.stks.length+1) vc)) ⟨w.heap.size+1,3,none⟩ (.slice cr m.run.length crc)) ⟨w.heap.size+1,4,none⟩ (.int .i64 (m.tag+1))) ⟨w.heap.size+1,5,none⟩ (.int .i64 m.call)) ⟨w.heap.size+2,0,none⟩ (.int .i64 n)) ⟨w.heap.size+2,1,none⟩ (.int .i64 0)) ⟨w.heap.size+2,2,none⟩ (.int .i64 m.tag)).mono (S':=(fun b=>w.heap.size≤b∧b < w.heap.size+3)) (fun b _ h=>by have h' : b=w.heap.size+2:=h;omega))) (ExtBut.of_ext (Ext.refl _).drew))
 refine bodyPost_ret (v := .tuple #[.agg #[.slice xa x.al.length xc,.int .i64 x.next,.slice va (m.stks.length+1) vc,.slice cr m.run.length crc,.int .i64 (m.tag+1),.int .i64 m.call],.agg #[.int .i64 n,.int .i64 0,.int .i64 m.tag],.int .i64 0]) (by simp [results,Try.f6,go_sem,bR_0,bR_1,bR_2,bR_3,bR_4,bR_5,bP_0,bP_1,bP_2]) rfl ?_
 have hFe:=ExtBut.ext hF14 hXe (fun b h=>h.1)
 have hXze:=ExtBut.trans hXz.out hXe
 have hP':=hP.out
 refine ⟨_,rfl,FrMon.of_fs (m:=⟨x,m.stks ++ [⟨n,BS⟩],m.run,m.tag+1,m.call⟩) (hMem2.out.to (S':=fun b=>w.heap.size≤b) hXze (fun b h1 _ h2=>by omega) (fun b h1 _=>by omega)) ?_ (hRun2.out.to (S':=fun b=>w.heap.size≤b) hXze (fun b h1 _ h2=>by have:=h1.1;have:=hXcs.out;omega) (fun b h1 _=>by have:=h1.1;have:=hXcs.out;omega)),hFe⟩
 exact (OwnK.fs hP.out).to (S':=fun b=>w.heap.size≤b) hXze (fun b h1 _ h2=>by have:=hXks.out;omega) (fun b h1 _=>by have:=hXks.out;omega)
end Go.Proofs.Ytnplphcnagooeaa

/- Contracts: monitor.at (the search for the stacks of an allocation). -/
namespace Go.Proofs.Ytnplphcnagooeaa
set_option maxRecDepth 100000
open Go.RowKit
def ixK : Option Nat→Int
 | none => -1
 | some i=>(i : Int)
def numK (n : Int) (x : Stk) : Bool:=x.num == n
theorem kIdxHit {p : Stk→Bool} {l : List Stk} {k : Nat} {x : Stk} (h : (l.take k).any p=false) (hx : l[k]? = some x) (hp : p x=true) : l.findIdx? p=some k:=by
 rw [List.findIdx?_eq_some_iff_getElem]
 obtain ⟨hk,rfl⟩:=List.getElem?_eq_some_iff.1 hx
 refine ⟨hk,hp,fun j hj => ?_⟩
 simp only [List.any_eq_false] at h
 have:=h l[j] (by rw [List.mem_iff_getElem?];exact ⟨j,by rw [List.getElem?_take,if_pos hj];simp⟩)
 simpa using this
theorem kIdxMiss {p : Stk→Bool} {l : List Stk} (h : l.any p=false) : l.findIdx? p=none:=by
 rw [List.findIdx?_eq_none_iff]
 simpa [List.any_eq_false] using h
def PredN (g : Nat) (cap : Array Value) (W : World) (p : Stk→Bool) : Prop :=
 ∀ (x : Stk) (s : Value) (w : World),Ext W w→Calls Try.prog g (#[.agg #[.int .i64 x.num,s]] ++ cap) w fun e w'=>e = .returned (.bool (p x))∧Ext w w'
theorem callFunc_at1 (args : Array Value) (w : World) : (callFunc 75 args).run Try.prog w = .ok (.enter 75 args) w:=by kernel_rfl
set_option maxHeartbeats 400000 in
theorem monitor_at1 (n : Int) (B : Nat) (W : World) (hc : W.cell? ⟨B,0,none⟩=some (.int .i64 n)) : PredN 75 #[.pointer (some ⟨B,0,none⟩)] W (numK n):=by
 intro x s w hW
 obtain ⟨num,l⟩:=x
 have hcw:=hW.cell hc
 have hB:=World.block_lt_of_cell? _ _ hcw
 have hE:=(Ext.refl w).alloc (.cells #[.int .i64 num,s] 58)
 clear hc hW
 show Calls Try.prog 75 #[.agg #[.int .i64 num,s],.pointer (some ⟨B,0,none⟩)] w _
 go_enter Try.func75,Try.ntmps75
 go_wp2
 go_ret
 exact ⟨rfl,hE⟩
set_option maxHeartbeats 800000 in
theorem indexFunc_num {g : Nat} {cap : Array Value} {p : Stk→Bool} {l : List Stk} {v : Value} {w : World} (hg : ∀ args w,(callFunc g args).run Try.prog w = .ok (.enter g args) w)
  (hp : PredN g cap w p) (hl : Kts w v l) : Calls Try.prog 74 #[v,.func (.func g) #[] cap] w fun e w'=>e = .returned (.int .i64 (ixK (l.findIdx? p)))∧Ext w w':=by
 obtain ⟨a,cp,rfl,hlc,hcm,-⟩:=hl.form
 unfold maxLen at hcm
 have hL:=Lib.hid hl
 clear hl
 go_enter Try.func74,Try.ntmps74
 go_wp2
 go_loopw [8] (fun i wr => ∃ k : Nat,k≤l.length∧i = .int .i64 k∧Ext w wr∧Hid ((l.take k).any p=false)) (fun i _=>l.length - (intOf i).toNat)
 case atStart=>exact ⟨0,Nat.zero_le _,rfl,Ext.refl _,by simp [Hid]⟩
 case round =>
  obtain ⟨k,hk,rfl,hE,hN⟩:=hrel
  by_cases hlt : k < l.length
  ·obtain ⟨x,hx⟩ : ∃ x,l[k]? = some x:=⟨l[k],by simp [hlt]⟩
   obtain ⟨b,off,sv,rfl,hbb,d0,d1,hcl⟩:=(hL.out.ext hE).cell hx
   have hX:=Lib.hid hx
   clear hx
   replace hcl:=Lib.hid hcl
   cases hpx : p x
   all_goals
    have hP:=Lib.hid hpx
    clear hpx
    go_wp2_with fail
    refine (hp x sv wr hE).mono ?_
    rintro e w1 ⟨rfl,hE1⟩
    have hpx:=hP.out
    go_wp2
   ·go_roundw
    case rel=>exact ⟨k+1,by omega,by go_num,hE.trans hE1,sany_take_succ hN.out hX.out hP.out⟩
    case measure=>simp [intOf];omega
   ·go_ret
    exact ⟨by rw [kIdxHit hN.out hX.out hP.out];rfl,hE.trans hE1⟩
  ·have hkl : k=l.length:=by omega
   subst hkl
   have hN':=hN.out
   rw [List.take_length] at hN'
   have hg:=Lib.hid (kIdxMiss hN')
   clear hN'
   go_wp2
   go_ret
   exact ⟨by rw [hg.out];rfl,hE⟩
set_option maxHeartbeats 800000 in
theorem monitor_at {m : Mon} {sa ss sr : Value} {w : World} (n : Int) (hok : MonOk m) (hK : Kts w ss m.stks) :
  Calls Try.prog 42 #[.agg #[sa,.int .i64 m.mem.next,ss,sr,.int .i64 m.tag,.int .i64 m.call],.int .i64 n] w fun e w'=>e = .returned (.int .i64 (ixK (atNum m.mem.al n)))∧Ext w w':=by
 have hE0:=((Ext.refl w).alloc (.cells #[sa,.int .i64 m.mem.next,ss,sr,.int .i64 m.tag,.int .i64 m.call] 28)).alloc (.cells #[.int .i64 n] 3)
 have hc : ((w.alloc (.cells #[sa,.int .i64 m.mem.next,ss,sr,.int .i64 m.tag,.int .i64 m.call] 28)).alloc (.cells #[.int .i64 n] 3)).cell? ⟨w.heap.size+1,0,none⟩=some (.int .i64 n):=by simp
 have hI:=Lib.hid (indexFunc_num callFunc_at1 (monitor_at1 n (w.heap.size+1) _ hc) (hK.ext hE0))
 have hat:=Lib.hid (hok.at n)
 have hmf : ∀ (fn : Fn) (first cap : Array Value) (w : World),(Instr.makeFunc fn first cap).run Try.prog w = .ok (.func fn first cap) w:=fun _ _ _ _=>rfl
 obtain ⟨a,cp,rfl,-⟩:=hK.form
 clear hK hc hok
 go_enter Try.func42,Try.ntmps42
 go_wp2_with fail
 refine hI.out.mono ?_
 rintro e w1 ⟨rfl,hE1⟩
 go_wp2
 go_ret
 exact ⟨by show _=Ending.returned (.int .i64 (ixK (atNum m.mem.al n)));rw [← hat.out];rfl,hE0.trans hE1⟩
end Go.Proofs.Ytnplphcnagooeaa

/- Contracts: Get of the program and of the reference. -/
namespace Go.Proofs.Ytnplphcnagooeaa
set_option maxRecDepth 100000
open Go.RowKit
theorem endR_bad {m : Mem} {n : Int} (h : m.ok=false) : endR m n=(Mem.zero,8):=by simp [endR,h]
theorem endR_none {m : Mem} {n : Int} (h : m.ok=true) (ha : atNum m.al n=none) : endR m n=(Mem.zero,6):=by simp [endR,h,ha]
theorem endR_dead {m : Mem} {n : Int} {i : Nat} {x : Alloc} (h : m.ok=true) (ha : atNum m.al n=some i) (hx : m.al[i]? = some x) (hl : x.live=false) : endR m n=(Mem.zero,6):=by
 simp [endR,h,ha,List.getD_eq_getElem?_getD,hx,hl]
theorem endR_live {m : Mem} {n : Int} {i : Nat} {x : Alloc} (h : m.ok=true) (ha : atNum m.al n=some i) (hx : m.al[i]? = some x) (hl : x.live=true) : endR m n=(⟨m.al.set i (ended x),m.next⟩,0):=by
 simp [endR,h,ha,List.getD_eq_getElem?_getD,hx,hl,endAt]
theorem idxM_none {l : List Alloc} {n : Int} (h : atNum l n=none) : idxM l n = -1:=by rw [idxM,h];rfl
theorem idxM_some {l : List Alloc} {n : Int} {i : Nat} (h : atNum l n=some i) : idxM l n=(i : Int):=by rw [idxM,h];rfl
end Go.Proofs.Ytnplphcnagooeaa
