/- Several texts in one: MonS, MonT. -/
import Derived.Test.YtepdbdckjmkbhaaGreatDoorQ22
import Derived.Test.YtepdbdckjmkbhaaGreatDoorQ05
import Derived.Test.YtepdbdckjmkbhaaGreatDoorQ13
/- Contracts: slices.DeleteFunc at stacks of allocations, slices.ContainsFunc at allocations, the test of monitor.Forget. -/
namespace Go.Proofs.YtepdbdckjmkbhaaGreatDoor
set_option maxRecDepth 100000
open Go.RowKit
theorem any_of_find {p : Alloc→Bool} {l : List Alloc} : (l.any p=true ∧ ∃ i,l.findIdx? p=some i)∨(l.any p=false∧l.findIdx? p=none):=by
 cases h : l.findIdx? p with
 | none=>exact .inr ⟨by rw [List.findIdx?_eq_none_iff] at h;rw [List.any_eq_false];intro x hx;simpa using h x hx,rfl⟩
 | some i =>
  obtain ⟨hi,hp,-⟩:=List.findIdx?_eq_some_iff_getElem.1 h
  exact .inl ⟨List.any_eq_true.2 ⟨_,List.getElem_mem hi,hp⟩,i,rfl⟩
theorem any_of_kfind {p : Stk→Bool} {l : List Stk} {i : Nat} (h : l.findIdx? p=some i) : ∃ x,l[i]? = some x∧p x=true∧(l.take i).any p=false:=by
 obtain ⟨hi,hp,hn⟩:=List.findIdx?_eq_some_iff_getElem.1 h
 refine ⟨l[i],by simp,hp,?_⟩
 rw [List.any_eq_false]
 intro x hx
 obtain ⟨j,hj⟩:=List.mem_iff_getElem?.1 hx
 rw [List.getElem?_take] at hj
 split at hj
 ·rename_i hji
  obtain ⟨hjl,rfl⟩:=List.getElem?_eq_some_iff.1 hj
  exact hn j hji
 ·cases hj
set_option maxHeartbeats 400000 in
theorem containsFunc_alloc {g : Nat} {cap : Array Value} {p : Alloc→Bool} {l : List Alloc} {v : Value} {w : World} (hg : ∀ args w,(callFunc g args).run Tryz.prog w = .ok (.enter g args) w)
  (hp : PredA g cap w p) (hl : Als w v l) : Calls Tryz.prog 41 #[v,.func (.func g) #[] cap] w fun e w'=>e = .returned (.bool (l.any p))∧Ext w w':=by
 have hI:=Lib.hid (indexFunc_alloc hg hp hl)
 obtain ⟨a,cp,rfl,-⟩:=hl.form
 clear hl hp
 rcases any_of_find (p:=p) (l:=l) with ⟨h1,i,h2⟩ | ⟨h1,h2⟩
 ·have q0 : decide ((0 : Int)≤(i : Int))=true:=decide_eq_true (by omega)
  replace h1:=Lib.hid h1;replace h2:=Lib.hid h2
  go_enter Tryz.func41,Tryz.ntmps41
  go_wp2_with fail
  refine hI.out.mono ?_
  rintro e w1 ⟨rfl,hE1⟩
  rw [h2.out]
  dsimp only [ixM]
  go_wp2
  go_ret
  exact ⟨by rw [h1.out];rfl,hE1⟩
 ·replace h1:=Lib.hid h1;replace h2:=Lib.hid h2
  go_enter Tryz.func41,Tryz.ntmps41
  go_wp2_with fail
  refine hI.out.mono ?_
  rintro e w1 ⟨rfl,hE1⟩
  rw [h2.out]
  dsimp only [ixM]
  go_wp2
  go_ret
  exact ⟨by rw [h1.out];rfl,hE1⟩
def PredX (g : Nat) (cap : Array Value) (W : World) (S : Nat→Prop) (p : Stk→Bool) : Prop :=
 ∀ (x : Stk) (s : Value) (w : World),ExtBut S W w→Calls Tryz.prog g (#[.agg #[.int .i64 x.num,s]] ++ cap) w fun e w'=>e = .returned (.bool (p x))∧Ext w w'
theorem callFunc_forget11 (args : Array Value) (w : World) : (callFunc 42 args).run Tryz.prog w = .ok (.enter 42 args) w:=by kernel_rfl
theorem callFunc_forget1 (args : Array Value) (w : World) : (callFunc 40 args).run Tryz.prog w = .ok (.enter 40 args) w:=by kernel_rfl
set_option maxHeartbeats 400000 in
theorem monitor_forget11 (n : Int) (B : Nat) (W : World) (hc : W.cell? ⟨B,0,none⟩=some (.int .i64 n)) : PredA 42 #[.pointer (some ⟨B,0,none⟩)] W (fun a=>a.num == n):=by
 intro x s w hW
 obtain ⟨num,live,cs⟩:=x
 have hcw:=hW.cell hc
 have hB:=World.block_lt_of_cell? _ _ hcw
 have hE:=(Ext.refl w).alloc (.cells #[.int .i64 num,.bool live,s] 40)
 clear hc hW
 show Calls Tryz.prog 42 #[.agg #[.int .i64 num,.bool live,s],.pointer (some ⟨B,0,none⟩)] w _
 go_enter Tryz.func42,Tryz.ntmps42
 go_wp2
 go_ret
 exact ⟨rfl,hE⟩
set_option maxHeartbeats 400000 in
theorem monitor_forget1 {al : List Alloc} {sa : Value} {W : World} {S : Nat→Prop} {B : Nat} (hc : W.cell? ⟨B,0,none⟩=some sa) (hS : ¬ S B) (hl : ∀ w,ExtBut S W w→Als w sa al) :
  PredX 40 #[.pointer (some ⟨B,0,none⟩)] W S (fun x => !(al.any (fun a=>a.num == x.num))):=by
 intro x s w hW
 obtain ⟨num,cs⟩:=x
 have hE:=(Ext.refl w).alloc (.cells #[.int .i64 num,s] 33)
 have hcw:=hE.cell (hW.cell hc hS)
 have hl':=(hl w hW).ext hE
 have bX:=Box.new w 33 #[.int .i64 num,s]
 have hC:=Lib.hid (containsFunc_alloc callFunc_forget11 (monitor_forget11 num w.heap.size _ (bX.cell 0)) hl')
 obtain ⟨a,cp,rfl,-⟩:=hl'.form
 have hmf : ∀ (fn : Fn) (first cap : Array Value) (w : World),(Instr.makeFunc fn first cap).run Tryz.prog w = .ok (.func fn first cap) w:=fun _ _ _ _=>rfl
 obtain ⟨r,hr⟩ : ∃ z,(al.any fun a=>a.num == num)=z:=⟨_,rfl⟩
 rw [hr] at hC
 replace hr:=Lib.hid hr
 clear hc hW hl hl' bX
 show Calls Tryz.prog 40 #[.agg #[.int .i64 num,s],.pointer (some ⟨B,0,none⟩)] w _
 go_enter Tryz.func40,Tryz.ntmps40
 go_wp2_with fail
 refine hC.out.mono ?_
 rintro e w1 ⟨rfl,hE1⟩
 go_wp2
 go_ret
 exact ⟨by dsimp only;rw [hr.out];rfl,hE.trans hE1⟩
theorem run_slice_from2 {P : Program} {t e : TypeId} {i : TypeInfo} {k : Nat} (ht : P.underlying t=some (.slice e)) (hi : P.info? e=some i) (hik : i.size=k) (g : Nat) (n cap : Nat) (j : Nat) (hj : j < n) (hc : n≤cap) (w : World) :
  (Instr.slice t (.slice (some ⟨g,0,none⟩) n cap) (some (.int .i64 (j : Int))) none none).run P w = .ok (.slice (some ⟨g,j * k,none⟩) (n - j) (cap - j)) w:=by
 subst hik
 have:=run_slice_from ht hi (some ⟨g,0,none⟩) n cap (j : Int) j rfl (by omega) w
 rw [this]
 have hne : ¬ cap=j:=by omega
 simp only [Addr.add,hne,if_false,Nat.zero_add]
 by_cases h0 : j * i.size=0
 ·simp [h0]
 ·simp [h0]
theorem DInv.old {B : Nat} {w3 wr : World} {g cp : Nat} {q : Stk→Bool} {vs : List Value} {l : List Stk} {k : Nat} (h : DInv B w3 wr g cp q vs l k) {c : Nat} (hc : c < l.length) : ∃ u0 u1,wr.cell? ⟨g,c * 2,none⟩=some u0∧wr.cell? ⟨g,c * 2+1,none⟩=some u1:=by
 obtain ⟨⟨ys,h1,-⟩,-⟩:=h
 have hyl : ys.length=l.length * 2:=h1.1
 exact ⟨ys[c * 2]'(by omega),ys[c * 2+1]'(by omega),(h1.cellAt (c * 2) (by omega)).trans (by simp),(h1.cellAt (c * 2+1) (by omega)).trans (by simp)⟩
theorem zeroCells_stk (n : Nat) : ∀ u ∈ (Builtin.zeroCells #[.int .i64 0,.slice none 0 0] n).toList,u.oneCell'=true:=by
 intro u hu
 unfold Builtin.zeroCells at hu
 rw [Array.mem_toList_iff] at hu
 obtain ⟨i,-,rfl⟩:=Array.mem_map.1 hu
 have : i % 2=0∨i % 2=1:=by omega
 rcases this with h | h <;> simp [h] <;> rfl
theorem Stacks.infoZ : ∃ i z,Tryz.prog.info? 33=some i∧i.zero=some z∧z.cells=#[.int .i64 0,.slice none 0 0]∧i.size=2:=by
 have h : (Tryz.prog.info? 33).map (fun i=>(i.zero.map (fun z=>z.cells),i.size))=some (some #[.int .i64 0,.slice none 0 0],2):=by kernel_rfl
 cases hi : Tryz.prog.info? 33 with
 | none=>rw [hi] at h;simp at h
 | some i =>
  rw [hi] at h
  simp only [Option.map_some,Option.some.injEq,Prod.mk.injEq] at h
  obtain ⟨h,h2⟩:=h
  cases hz : i.zero with
  | none=>rw [hz] at h;simp at h
  | some z =>
   rw [hz] at h
   exact ⟨i,z,rfl,hz,by simpa using h,h2⟩
set_option maxHeartbeats 1600000 in
theorem deleteFunc_stacks {g : Nat} {cap : Array Value} {p : Stk→Bool} {l : List Stk} {vs : List Value} {v : Value} {B : Nat} {w : World} (hg : ∀ args w,(callFunc g args).run Tryz.prog w = .ok (.enter g args) w)
  (hp : PredX g cap w (fun b=>v.ownBlock=some b) p) (hO : Own w B 33 2 v l.length (trows krow vs l)) (hv : vs.length=l.length) (hsl : ∀ s ∈ vs,∃ a n c,s = .slice a n c) (hK : Kts w v l) :
  Calls Tryz.prog 39 #[v,.func (.func g) #[] cap] w fun e w' => ∃ a n c,e = .returned (.slice a n c)∧n=(zq (fun x => !p x) vs l l.length).length∧(∀ b,(Value.slice a n c).ownBlock=some b→v.ownBlock=some b) ∧
   Fq (fun b=>v.ownBlock=some b) w' (fun w=>Sl w 2 (.slice a n c) n (zqrows (zq (fun x => !p x) vs l l.length)))∧ExtBut (fun b=>v.ownBlock=some b) w w':=by
 have hI:=Lib.hid (indexFunc_num hg (fun x s w hE=>hp x s w (ExtBut.of_ext hE)) hK)
 obtain ⟨a0,c0,rfl,hlc,hcm,-⟩:=hK.form
 unfold maxLen at hcm
 cases hix : l.findIdx? p with
 | none =>
  have hall : (l.take l.length).any (fun x => !(!p x))=false:=by
   rw [List.findIdx?_eq_none_iff] at hix
   rw [List.take_length,List.any_eq_false]
   intro x hx
   simpa using hix x hx
  have hz:=zq_all (q:=fun x => !p x) (vs:=vs) hall
  have hzz : (vs.zip l).take l.length=vs.zip l:=List.take_of_length_le (by rw [List.length_zip];omega)
  have hn:=Lib.hid (show l.length=(zq (fun x => !p x) vs l l.length).length by rw [hz,hzz,List.length_zip];omega)
  have hr : Fq (fun b=>(Value.slice a0 l.length c0).ownBlock=some b) w (fun w=>Sl w 2 (.slice a0 l.length c0) l.length (zqrows (zq (fun x => !p x) vs l l.length))):=by
   rw [hz,hzz]
   exact hO.fs
  replace hr:=Lib.hid hr
  replace hix:=Lib.hid hix
  clear hp hO hK hz hall hzz hv hsl
  go_enter Tryz.func39,Tryz.ntmps39
  go_wp2_with fail
  refine hI.out.mono ?_
  rintro e w1 ⟨rfl,hE1⟩
  rw [hix.out]
  dsimp only [ixK]
  go_wp2
  go_ret
  exact ⟨_,_,_,rfl,hn.out,fun _ h=>h,hr.out.ext hE1,ExtBut.of_ext hE1⟩
 | some i =>
  obtain ⟨x0,hx0,hpx0,hpre⟩:=any_of_kfind hix
  have hil:=(List.getElem?_eq_some_iff.1 hx0).1
  obtain ⟨G,cp,e,-⟩:=hO.form (by omega)
  simp only [Value.slice.injEq] at e
  obtain ⟨rfl,-,rfl⟩:=e
  have hD0 : ∀ w1,Ext w w1→DInv B w w1 G c0 (fun x => !p x) vs l (i+1)∧(zq (fun x => !p x) vs l (i+1)).length=i:=fun w1 hE=>DInv.start (hO.ext hE) hv (ExtBut.of_ext hE) hil (by simpa using hpre) hx0 (by simp [hpx0])
  have hob : (fun b=>(Value.slice (some ⟨G,0,none⟩) l.length c0).ownBlock=some b)=fun b=>b=G:=by
   funext b
   simp only [Value.ownBlock,Option.some.injEq,eq_iff_iff]
   exact ⟨fun h=>h.symm,fun h=>h.symm⟩
  rw [hob] at hp ⊢
  have q0 : ((i : Int) == -1)=false:=beq_eq_false_iff_ne.2 (by omega)
  have hB : G < w.heap.size:=(hO.lt rfl).2
  replace hp:=Lib.hid hp;replace hD0:=Lib.hid hD0;replace hix:=Lib.hid hix;replace hv:=Lib.hid hv;replace hsl:=Lib.hid hsl
  clear hO hK hx0 hpx0 hpre hob
  obtain ⟨ci,cz,hci,hcz,hczz,hci2⟩:=Stacks.infoZ
  replace hci:=Lib.hid hci;replace hcz:=Lib.hid hcz;replace hczz:=Lib.hid hczz;replace hci2:=Lib.hid hci2
  have w1' : IntKind.i64.wrap ((i : Int)+1)=(i : Int)+1:=IntWalk.i64_in _ (by omega)
  go_enter Tryz.func39,Tryz.ntmps39
  go_wp2_with fail
  refine hI.out.mono ?_
  rintro e w1 ⟨rfl,hE1⟩
  rw [hix.out]
  dsimp only [ixK]
  have hD1:=Lib.hid (hD0.out w1 hE1)
  go_wp2
  go_loopw [5,6] (fun cv jv wr => ∃ c j : Nat,c < j∧j≤l.length∧cv = .int .i64 (c : Int)∧jv = .int .i64 (j : Int)∧(zq (fun x => !p x) vs l j).length=c∧DInv B w wr G c0 (fun x => !p x) vs l j) (fun _ jv _=>l.length - (intOf jv).toNat)
  case atStart=>exact ⟨i,i+1,by omega,by omega,rfl,by go_num,hD1.out.2,hD1.out.1⟩
  case round =>
   obtain ⟨c,j,hcj,hj,rfl,rfl,hzc,hD⟩:=hrel
   obtain ⟨wj,hwj⟩ : ∃ z,wr=z:=⟨_,rfl⟩
   rw [hwj] at hD ⊢
   clear hwj
   by_cases hjl : j < l.length
   ·have hjl' : decide (j < l.length)=true:=decide_eq_true hjl
    obtain ⟨x,hx⟩ : ∃ x,l[j]? = some x:=⟨l[j],by simp [hjl]⟩
    obtain ⟨s,hs⟩ : ∃ s,vs[j]? = some s:=by have:=hv.out;exact ⟨vs[j],by simp⟩
    obtain ⟨sa,sn,sc,rfl⟩:=hsl.out s (List.mem_of_getElem? hs)
    obtain ⟨d0,d1⟩:=hD.cells hs hx
    have hGj : G < wj.heap.size:=World.block_lt_of_cell? _ _ d0
    have hj0 : (0 : Int)≤(j : Int):=by omega
    have hj1 : (j : Int) < (l.length : Int):=by omega
    have hX:=(hD.keep).trans (ExtBut.of_ext ((Ext.refl wj).alloc (.cells #[.int .i64 x.num,.slice sa sn sc] 33)))
    have hPx:=hp.out x (.slice sa sn sc) _ hX
    have hE0 : Ext wj (wj.alloc (.cells #[.int .i64 x.num,.slice sa sn sc] 33)):=(Ext.refl wj).alloc _
    have bX:=Box.new wj 33 #[.int .i64 x.num,.slice sa sn sc]
    have hH:=Lib.hid (And.intro hD (And.intro hs (And.intro hx hzc)))
    replace hPx:=Lib.hid hPx;replace bX:=Lib.hid bX
    obtain ⟨xn,xc⟩:=x
    dsimp only at d0 hE0 bX hPx
    cases hpx : p ⟨xn,xc⟩
    ·
     obtain ⟨u0,u1,o0,o1⟩:=hD.old (c:=c) (by omega)
     have hc0 : (0 : Int)≤(c : Int):=by omega
     have hc1 : (c : Int) < (l.length : Int):=by omega
     have of0:=hD.frozen (c * 2)
     have of1:=hD.frozen (c * 2+1)
     have w2' : IntKind.i64.wrap ((c : Int)+1)=(c : Int)+1:=IntWalk.i64_in _ (by omega)
     have hpxh:=Lib.hid hpx
     have hm1 : ∀ w2,Ext wj w2→w2.cell? ⟨G,c * 2,none⟩=some u0∧w2.cell? ⟨G,c * 2+1,none⟩=some u1∧w2.frozen? ⟨G,c * 2,none⟩=false∧w2.frozen? ⟨G,c * 2+1,none⟩=false:=fun w2 h=>⟨h.cell o0,h.cell o1,(h.cells.2 G (c * 2) hGj).trans of0,(h.cells.2 G (c * 2+1) hGj).trans of1⟩
     replace hm1:=Lib.hid hm1
     clear hD hs hx hzc hX hpx o0 o1 of0 of1
     go_wp2_with fail
     refine hPx.out.mono ?_
     rintro e w2 ⟨rfl,hE2⟩
     have hpx:=hpxh.out
     obtain ⟨o0,o1,of0,of1⟩:=hm1.out w2 (hE0.trans hE2)
     have bX2:=bX.out.ext hE2
     have b0 : World.cell? w2 ⟨wj.heap.size,0,none⟩=some (.int .i64 xn):=bX2.cell 0
     have b1 : World.cell? w2 ⟨wj.heap.size,1,none⟩=some (.slice sa sn sc):=bX2.cell 1
     have bl:=bX2.lt
     have hT:=Lib.hid (hH.out.1.take hH.out.2.1 hH.out.2.2.1 (by simp [hpx]) (hE0.trans hE2) hH.out.2.2.2)
     clear bX2 d0 d1
     go_wp2
     go_roundw
     case rel=>exact ⟨c+1,j+1,by omega,by omega,by go_num,by go_num,hT.out.2,hT.out.1⟩
     case measure=>simp [intOf];omega
    ·have hpxh:=Lib.hid hpx
     clear hD hs hx hzc hX hpx
     go_wp2_with fail
     refine hPx.out.mono ?_
     rintro e w2 ⟨rfl,hE2⟩
     have hpx:=hpxh.out
     have hT:=Lib.hid (hH.out.1.skip hH.out.2.1 hH.out.2.2.1 (by simp [hpx]) (hE0.trans hE2))
     have hz2:=Lib.hid ((congrArg List.length (zq_no (q:=fun x => !p x) hH.out.2.1 hH.out.2.2.1 (by simp [hpx]))).trans hH.out.2.2.2)
     clear d0 d1
     go_wp2
     go_roundw
     case rel=>exact ⟨c,j+1,by omega,by omega,rfl,by go_num,hz2.out,hT.out⟩
     case measure=>simp [intOf];omega
   ·have hje : j=l.length:=by omega
    subst hje
    have hjl' : decide (l.length < l.length)=false:=decide_eq_false (by omega)
    obtain ⟨ys,hys,-⟩:=hD.ys
    have hfr : ∀ w,(Instr.slice 25 (.slice (some ⟨G,0,none⟩) l.length c0) (some (.int .i64 (c : Int))) none none).run Tryz.prog w = .ok (.slice (some ⟨G,c * 2,none⟩) (l.length - c) (c0 - c)) w:=fun w=>run_slice_from2 Tryz.underlying25 hci.out hci2.out G l.length c0 c (by omega) hlc w
    have hut : ∀ w,(Instr.slice 25 (.slice (some ⟨G,0,none⟩) l.length c0) none (some (.int .i64 (c : Int))) none).run Tryz.prog w = .ok (.slice (some ⟨G,0,none⟩) c c0) w:=fun w=>run_slice_upto Tryz.underlying25 hci.out (some ⟨G,0,none⟩) l.length c0 c c rfl (by omega) w
    obtain ⟨w5,hr5,hO5,hX5⟩:=run_clear_from (P:=Tryz.prog) (ty:=0) (t:=25) (k:=2) (j:=c) Tryz.underlying25 hci.out hcz.out (by rw [hczz.out];rfl) (by rw [hczz.out];exact zeroCells_stk _) hys (by omega)
    have hcl:=fun ys (hys : Own wj B 33 2 (.slice (some ⟨G,0,none⟩) l.length c0) l.length ys)=>run_clear_from (P:=Tryz.prog) (ty:=0) (t:=25) (k:=2) (j:=c) Tryz.underlying25 hci.out hcz.out (by rw [hczz.out];rfl) (by rw [hczz.out];exact zeroCells_stk _) hys (by omega)
    have hfin:=hD.finish (c:=c) hzc (w':=w5) (zs:=(Builtin.zeroCells cz.cells (l.length - c)).toList) (fun ys hys=>by
     obtain ⟨w6,h1,h2,-⟩:=hcl ys hys
     have:=h1.symm.trans hr5
     simp only [Result.ok.injEq,true_and] at this
     rw [← this]
     exact h2)
    have hXe:=hD.keep.trans hX5
    replace hfin:=Lib.hid hfin;replace hXe:=Lib.hid hXe;replace hzc:=Lib.hid hzc
    clear hcl hO5 hX5 hys hD hjl hj
    go_wp2
    go_ret
    exact ⟨_,_,_,rfl,hzc.out.symm,fun b h=>by have h' : some G=some b:=h;cases h';rfl,hfin.out,hXe.out⟩
end Go.Proofs.YtepdbdckjmkbhaaGreatDoor

/- Contracts: monitor.Forget. (printed by gen/mon35h.py) -/
namespace Go.Proofs.YtepdbdckjmkbhaaGreatDoor
set_option maxRecDepth 100000
open Go.RowKit
theorem forgetM_bad {m : Mon} (h : okMon m=false) : forgetM m=(Mon.zero,8):=by simp [forgetM,h]
theorem forgetM_ok {m : Mon} (h : okMon m=true) : forgetM m=(⟨⟨m.mem.al.filter (·.live),m.mem.next⟩,keptK m.stks m.mem.al,m.run,m.tag,m.call⟩,0):=by rw [forgetM,if_pos h]
theorem Cloned.deleted {w w5 : World} {B : Nat} {c : Nat→Nat} {sa ss sr : Value} {vs : List Value} {m : Mon} {q : Stk→Bool} {a : Option Addr} {n cap : Nat} (h : Cloned w B c sa ss sr vs m) (hn : n=(zq q vs m.stks m.stks.length).length)
  (hF : Fq (fun b=>ss.ownBlock=some b) w5 (fun w=>Sl w 2 (.slice a n cap) n (zqrows (zq q vs m.stks m.stks.length)))) (hX : ExtBut (fun b=>ss.ownBlock=some b) w w5) : Fq (fun b=>B≤b) w5 (fun w=>Kts w (.slice a n cap) (m.stks.filter q)):=by
 intro w'' hb
 have e1:=zq_snd (q:=q) h.len
 refine ⟨(zq q vs m.stks m.stks.length).map Prod.fst,?_,?_⟩
 ·rw [← e1]
  refine All2.map _ _ _ fun p hp => ?_
  have hp2:=List.mem_of_mem_take (List.mem_filter.1 hp).1
  obtain ⟨i,hi⟩:=List.mem_iff_getElem?.1 hp2
  rw [List.getElem?_zip_eq_some] at hi
  have hr:=(h.row i _ _ hi.1 hi.2).1.to (S':=fun b=>B≤b) hX (fun b h1 _ h2=>by have:=h.out0 b h2;have:=h1.2;omega) (fun b h1 _=>h1.1)
  exact hr w'' hb
 ·have h7:=hF w'' fun b h1 h2=>hb b (h.outer.lt h1).1 h2
  rw [← zq_rows,e1] at h7
  rw [← e1,List.length_map,← hn,e1]
  exact h7
set_option maxRecDepth 100000 in
set_option maxHeartbeats 6400000 in
theorem monitor_Forget {m : Mon} {sa ss sr : Value} {w : World} (hA : Als w sa m.mem.al) (hn : i64B m.mem.next) (hK : Kts w ss m.stks) (hR : Nts w sr m.run) :
  Calls Tryz.prog 16 #[.agg #[sa,.int .i64 m.mem.next,ss,sr,.int .i64 m.tag,.int .i64 m.call]] w (RetF w (fun v => .tuple #[v,.int .i64 (forgetM m).2]) (forgetM m).1):=by
 obtain ⟨aa,ac,rfl,hac,hacm,-⟩:=hA.form
 obtain ⟨ka,kc,rfl,hkc,hkcm,-⟩:=hK.form
 obtain ⟨ra,rc,rfl,hrc,hrcm,-⟩:=hR.form
 unfold maxLen at hacm hkcm hrcm
 have hE0 : Ext w (World.alloc (World.alloc w (.cells #[.slice aa m.mem.al.length ac,.int .i64 m.mem.next,.slice ka m.stks.length kc,.slice ra m.run.length rc,.int .i64 m.tag,.int .i64 m.call] 28)) (.cells #[.slice none 0 0,.int .i64 0,.slice none 0 0,.slice none 0 0,.int .i64 0,.int .i64 0] 28)):=by repeat (first | exact Ext.refl _ | refine Ext.alloc ?_ _)
 have bM : Box (World.alloc (World.alloc w (.cells #[.slice aa m.mem.al.length ac,.int .i64 m.mem.next,.slice ka m.stks.length kc,.slice ra m.run.length rc,.int .i64 m.tag,.int .i64 m.call] 28)) (.cells #[.slice none 0 0,.int .i64 0,.slice none 0 0,.slice none 0 0,.int .i64 0,.int .i64 0] 28)) (w.heap.size) 28 #[.slice aa m.mem.al.length ac,.int .i64 m.mem.next,.slice ka m.stks.length kc,.slice ra m.run.length rc,.int .i64 m.tag,.int .i64 m.call]:=(by
  have h:=Box.new w 28 #[.slice aa m.mem.al.length ac,.int .i64 m.mem.next,.slice ka m.stks.length kc,.slice ra m.run.length rc,.int .i64 m.tag,.int .i64 m.call]
  replace h:=Box.ext h ((Ext.refl _).alloc (.cells #[.slice none 0 0,.int .i64 0,.slice none 0 0,.slice none 0 0,.int .i64 0,.int .i64 0] 28))
  exact h)
 have bR : Box (World.alloc (World.alloc w (.cells #[.slice aa m.mem.al.length ac,.int .i64 m.mem.next,.slice ka m.stks.length kc,.slice ra m.run.length rc,.int .i64 m.tag,.int .i64 m.call] 28)) (.cells #[.slice none 0 0,.int .i64 0,.slice none 0 0,.slice none 0 0,.int .i64 0,.int .i64 0] 28)) (w.heap.size+1) 28 #[.slice none 0 0,.int .i64 0,.slice none 0 0,.slice none 0 0,.int .i64 0,.int .i64 0]:=(by
  have h:=Box.new (World.alloc w (.cells #[.slice aa m.mem.al.length ac,.int .i64 m.mem.next,.slice ka m.stks.length kc,.slice ra m.run.length rc,.int .i64 m.tag,.int .i64 m.call] 28)) 28 #[.slice none 0 0,.int .i64 0,.slice none 0 0,.slice none 0 0,.int .i64 0,.int .i64 0]
  simp only [World.size_alloc] at h
  exact h)
 obtain ⟨w0,hw0⟩ : ∃ z,(World.alloc (World.alloc w (.cells #[.slice aa m.mem.al.length ac,.int .i64 m.mem.next,.slice ka m.stks.length kc,.slice ra m.run.length rc,.int .i64 m.tag,.int .i64 m.call] 28)) (.cells #[.slice none 0 0,.int .i64 0,.slice none 0 0,.slice none 0 0,.int .i64 0,.int .i64 0] 28))=z:=⟨_,rfl⟩
 rw [hw0] at hE0 bM bR
 have hs0 : w0.heap.size=w.heap.size+2:=by rw [← hw0];simp
 replace hs0:=Lib.hid hs0
 replace hA:=Lib.hid hA
 replace hK:=Lib.hid hK
 replace hR:=Lib.hid hR
 replace hn:=Lib.hid hn
 cases hok : okMon m
 ·skip
  have hce:=Lib.hid (monErr_not hok)
  have hres:=Lib.hid (forgetM_bad hok)
  clear hok
  go_enter Tryz.func16,Tryz.ntmps16
  obtain ⟨bM_0,bM_1,bM_2,bM_3,bM_4,bM_5,bM_l⟩:=bM.c6
  go_wp2_with fail
  clear bM_0 bM_1 bM_2 bM_3 bM_4 bM_5 bM_l
  refine (mon_Check' (hA.out.ext hE0) hn.out (hK.out.ext hE0) (hR.out.ext hE0)).mono ?_
  rintro e w1 ⟨rfl,hE1⟩
  replace bM:=bM.ext hE1
  replace bR:=bR.ext hE1
  have hF1:=Ext.trans hE0 hE1
  rw [hce.out]
  clear hw0
  obtain ⟨bM_0,bM_1,bM_2,bM_3,bM_4,bM_5,bM_l⟩:=bM.c6
  have bR_0 : World.cell? w1 ⟨w.heap.size+1,0,none⟩=some (.slice none 0 0):=bR.cell 0
  have bR_1 : World.cell? w1 ⟨w.heap.size+1,1,none⟩=some (.int .i64 0):=bR.cell 1
  have bR_2 : World.cell? w1 ⟨w.heap.size+1,2,none⟩=some (.slice none 0 0):=bR.cell 2
  have bR_3 : World.cell? w1 ⟨w.heap.size+1,3,none⟩=some (.slice none 0 0):=bR.cell 3
  have bR_4 : World.cell? w1 ⟨w.heap.size+1,4,none⟩=some (.int .i64 0):=bR.cell 4
  have bR_5 : World.cell? w1 ⟨w.heap.size+1,5,none⟩=some (.int .i64 0):=bR.cell 5
  have bR_f0 : World.frozen? w1 ⟨w.heap.size+1,0,none⟩=false:=bR.frozen 0
  have bR_f1 : World.frozen? w1 ⟨w.heap.size+1,1,none⟩=false:=bR.frozen 1
  have bR_f2 : World.frozen? w1 ⟨w.heap.size+1,2,none⟩=false:=bR.frozen 2
  have bR_f3 : World.frozen? w1 ⟨w.heap.size+1,3,none⟩=false:=bR.frozen 3
  have bR_f4 : World.frozen? w1 ⟨w.heap.size+1,4,none⟩=false:=bR.frozen 4
  have bR_f5 : World.frozen? w1 ⟨w.heap.size+1,5,none⟩=false:=bR.frozen 5
  have bR_l:=bR.lt
  go_wp2
  rw [hres.out]
  have hXe : ExtBut (fun b=>w.heap.size≤b∧b < w.heap.size+2) w1 (World.setCell (World.setCell (World.setCell (World.setCell (World.setCell (World.setCell w1 ⟨w.heap.size+1,0,none⟩ (.slice none 0 0)) ⟨w.heap.size+1,1,none⟩ (.int .i64 0)) ⟨w.heap.size+1,2,none⟩ (.slice none 0 0)) ⟨w.heap.size+1,3,none⟩ (.slice none 0 0)) ⟨w.heap.size+1,4,none⟩ (.int .i64 0)) ⟨w.heap.size+1,5,none⟩ (.int .i64 0)):=by (repeat' with_reducible first | exact ExtBut.refl _ _ | refine ExtBut.dr ?_ | refine ExtBut.sc ?_ ?_ | fail) <;> dsimp only <;> omega
  refine bodyPost_ret (v := .tuple #[.agg #[.slice none 0 0,.int .i64 0,.slice none 0 0,.slice none 0 0,.int .i64 0,.int .i64 0],.int .i64 8]) (by simp [results,Tryz.f16,go_sem,bR_0,bR_1,bR_2,bR_3,bR_4,bR_5]) rfl ?_
  have hFe:=ExtBut.ext hF1 hXe (fun b h=>h.1)
  exact ⟨_,rfl,FrMon.zero _ _,hFe⟩
 have hMok:=MonOk.of hok
 have hce:=Lib.hid (monErr_of hok)
 have hcl:=Lib.hid hMok.small
 have hfo:=Lib.hid (forgetR_ok hMok.memOk)
 have hres:=Lib.hid (forgetM_ok hok)
 have hkept:=Lib.hid hMok.kept
 obtain ⟨FL,hFL⟩ : ∃ z,m.mem.al.filter (·.live)=z:=⟨_,rfl⟩
 rw [hFL] at hfo hres
 have hFLh:=Lib.hid hFL
 clear hok hMok hFL
 have hmf : ∀ (fn : Fn) (first cap : Array Value) (w : World),(Instr.makeFunc fn first cap).run Tryz.prog w = .ok (.func fn first cap) w:=fun _ _ _ _=>rfl
 go_enter Tryz.func16,Tryz.ntmps16
 obtain ⟨bM_0,bM_1,bM_2,bM_3,bM_4,bM_5,bM_l⟩:=bM.c6
 go_wp2_with fail
 clear bM_0 bM_1 bM_2 bM_3 bM_4 bM_5 bM_l
 refine (mon_Check' (hA.out.ext hE0) hn.out (hK.out.ext hE0) (hR.out.ext hE0)).mono ?_
 rintro e w1 ⟨rfl,hE1⟩
 replace bM:=bM.ext hE1
 replace bR:=bR.ext hE1
 have hF1:=Ext.trans hE0 hE1
 rw [hce.out]
 clear hw0
 obtain ⟨bM_0,bM_1,bM_2,bM_3,bM_4,bM_5,bM_l⟩:=bM.c6
 go_wp2_with fail
 clear bM_0 bM_1 bM_2 bM_3 bM_4 bM_5 bM_l
 have hXas:=Lib.hid (by have:=bR.lt;omega : w.heap.size+2≤w1.heap.size)
 refine (allocs_Forget (hA.out.ext hF1) hn.out).mono ?_
 rintro e w2 ⟨v,rfl,fM,hE2⟩
 replace bM:=bM.ext hE2
 replace bR:=bR.ext hE2
 have hF2:=Ext.trans hF1 hE2
 rw [hfo.out] at fM ⊢
 obtain ⟨sx,rfl,hx⟩:=FrM.fs fM
 clear fM
 dsimp only at hx
 have hv:=hx.read.form
 obtain ⟨xa,xc,rfl,-⟩:=hv
 dsimp only at hx ⊢
 replace hx:=Lib.hid hx
 have hXa:=Lib.hid (ExtBut.refl (fun b=>w.heap.size≤b∧b < w.heap.size+2) w2)
 obtain ⟨bM_0,bM_1,bM_2,bM_3,bM_4,bM_5,bM_l⟩:=bM.c6
 go_wp2_with fail
 clear bM_0 bM_1 bM_2 bM_3 bM_4 bM_5 bM_l
 have szbQ:=Lib.hid (by have:=bR.lt;omega : w.heap.size+2≤w2.heap.size)
 have bQ:=Box.new w2 24 #[.slice xa FL.length xc,.int .i64 m.mem.next]
 have hzb0 : (World.alloc w2 (.cells #[.slice xa FL.length xc,.int .i64 m.mem.next] 24)).heap.size=w2.heap.size+1:=by rw [World.size_alloc]
 have hx3 : Ext w2 (World.alloc w2 (.cells #[.slice xa FL.length xc,.int .i64 m.mem.next] 24)):=(Ext.refl _).alloc _
 obtain ⟨w3b,hw3⟩ : ∃ z,World.alloc w2 (.cells #[.slice xa FL.length xc,.int .i64 m.mem.next] 24)=z:=⟨_,rfl⟩
 rw [hw3] at bQ hx3 hzb0 ⊢
 clear hw3
 replace bM:=bM.ext hx3
 replace bR:=bR.ext hx3
 replace hXa:=Lib.hid (ExtBut.trans hXa.out (ExtBut.of_ext hx3))
 have hF4:=Ext.trans hF2 hx3
 clear hzb0
 have hPl:=Lib.hid bQ.lt
 have hXcs:=Lib.hid (by have:=bR.lt;omega : w.heap.size+2≤w3b.heap.size)
 have hXa_hXc:=Lib.hid hXa.out.size
 refine (monitor_clone (hA.out.ext hF4) (hK.out.ext hF4) (hR.out.ext hF4) hcl.out.1 hcl.out.2.1 hcl.out.2.2).mono ?_
 rintro e w5 ⟨c,ca,ck,cr,vs,rfl,hC,hE5⟩
 replace bM:=bM.ext hE5
 replace bR:=bR.ext hE5
 replace bQ:=bQ.ext hE5
 replace hXa:=Lib.hid (ExtBut.trans hXa.out (ExtBut.of_ext hE5))
 have hF5:=Ext.trans hF4 hE5
 have hv:=hC.al.read.form
 obtain ⟨ca,cac,rfl,-⟩:=hv
 have hv:=hC.outer.sl.slice_form
 obtain ⟨ck,ckc,rfl,-⟩:=hv
 have hv:=hC.run.read.form
 obtain ⟨cr,crc,rfl,-⟩:=hv
 replace hC:=Lib.hid hC
 have hXc:=Lib.hid (ExtBut.refl (fun b=>w.heap.size≤b∧b < w.heap.size+2) w5)
 have bM_0 : World.cell? w5 ⟨w.heap.size,0,none⟩=some (.slice aa m.mem.al.length ac):=bM.cell 0
 have bM_1 : World.cell? w5 ⟨w.heap.size,1,none⟩=some (.int .i64 m.mem.next):=bM.cell 1
 have bM_2 : World.cell? w5 ⟨w.heap.size,2,none⟩=some (.slice ka m.stks.length kc):=bM.cell 2
 have bM_3 : World.cell? w5 ⟨w.heap.size,3,none⟩=some (.slice ra m.run.length rc):=bM.cell 3
 have bM_4 : World.cell? w5 ⟨w.heap.size,4,none⟩=some (.int .i64 m.tag):=bM.cell 4
 have bM_5 : World.cell? w5 ⟨w.heap.size,5,none⟩=some (.int .i64 m.call):=bM.cell 5
 have bM_f0 : World.frozen? w5 ⟨w.heap.size,0,none⟩=false:=bM.frozen 0
 have bM_f1 : World.frozen? w5 ⟨w.heap.size,1,none⟩=false:=bM.frozen 1
 have bM_f2 : World.frozen? w5 ⟨w.heap.size,2,none⟩=false:=bM.frozen 2
 have bM_f3 : World.frozen? w5 ⟨w.heap.size,3,none⟩=false:=bM.frozen 3
 have bM_f4 : World.frozen? w5 ⟨w.heap.size,4,none⟩=false:=bM.frozen 4
 have bM_f5 : World.frozen? w5 ⟨w.heap.size,5,none⟩=false:=bM.frozen 5
 have bM_l:=bM.lt
 go_upto_region 6 with fail
 clear bM_0 bM_1 bM_2 bM_3 bM_4 bM_5 bM_f0 bM_f1 bM_f2 bM_f3 bM_f4 bM_f5 bM_l
 have hS6 : ExtBut (fun b=>w.heap.size≤b∧b < w.heap.size+2) w5 (World.setCell (World.setCell (World.setCell (World.setCell (World.setCell (World.setCell w5 ⟨w.heap.size,0,none⟩ (.slice ca m.mem.al.length cac)) ⟨w.heap.size,1,none⟩ (.int .i64 m.mem.next)) ⟨w.heap.size,2,none⟩ (.slice ck m.stks.length ckc)) ⟨w.heap.size,3,none⟩ (.slice cr m.run.length crc)) ⟨w.heap.size,4,none⟩ (.int .i64 m.tag)) ⟨w.heap.size,5,none⟩ (.int .i64 m.call)):=by (repeat' with_reducible first | exact ExtBut.refl _ _ | refine ExtBut.dr ?_ | refine ExtBut.sc ?_ ?_ | fail) <;> dsimp only <;> omega
 replace bM:=(Box.setL (Box.setL (Box.setL (Box.setL (Box.setL (Box.setL bM 0 (.slice ca m.mem.al.length cac)) 1 (.int .i64 m.mem.next)) 2 (.slice ck m.stks.length ckc)) 3 (.slice cr m.run.length crc)) 4 (.int .i64 m.tag)) 5 (.int .i64 m.call))
 simp only [List.set_cons_zero,List.set_cons_succ] at bM
 replace bR:=(Box.other (Box.other (Box.other (Box.other (Box.other (Box.other bR (p:=⟨w.heap.size,0,none⟩) (by simp) (.slice ca m.mem.al.length cac)) (p:=⟨w.heap.size,1,none⟩) (by simp) (.int .i64 m.mem.next)) (p:=⟨w.heap.size,2,none⟩) (by simp) (.slice ck m.stks.length ckc)) (p:=⟨w.heap.size,3,none⟩) (by simp) (.slice cr m.run.length crc)) (p:=⟨w.heap.size,4,none⟩) (by simp) (.int .i64 m.tag)) (p:=⟨w.heap.size,5,none⟩) (by simp) (.int .i64 m.call))
 replace bQ:=(Box.other (Box.other (Box.other (Box.other (Box.other (Box.other bQ (p:=⟨w.heap.size,0,none⟩) (by have:=szbQ.out;show w.heap.size≠w2.heap.size;omega) (.slice ca m.mem.al.length cac)) (p:=⟨w.heap.size,1,none⟩) (by have:=szbQ.out;show w.heap.size≠w2.heap.size;omega) (.int .i64 m.mem.next)) (p:=⟨w.heap.size,2,none⟩) (by have:=szbQ.out;show w.heap.size≠w2.heap.size;omega) (.slice ck m.stks.length ckc)) (p:=⟨w.heap.size,3,none⟩) (by have:=szbQ.out;show w.heap.size≠w2.heap.size;omega) (.slice cr m.run.length crc)) (p:=⟨w.heap.size,4,none⟩) (by have:=szbQ.out;show w.heap.size≠w2.heap.size;omega) (.int .i64 m.tag)) (p:=⟨w.heap.size,5,none⟩) (by have:=szbQ.out;show w.heap.size≠w2.heap.size;omega) (.int .i64 m.call))
 obtain ⟨w6s,hw6⟩ : ∃ z,(World.setCell (World.setCell (World.setCell (World.setCell (World.setCell (World.setCell w5 ⟨w.heap.size,0,none⟩ (.slice ca m.mem.al.length cac)) ⟨w.heap.size,1,none⟩ (.int .i64 m.mem.next)) ⟨w.heap.size,2,none⟩ (.slice ck m.stks.length ckc)) ⟨w.heap.size,3,none⟩ (.slice cr m.run.length crc)) ⟨w.heap.size,4,none⟩ (.int .i64 m.tag)) ⟨w.heap.size,5,none⟩ (.int .i64 m.call))=z:=⟨_,rfl⟩
 rw [hw6] at hS6 bM bR bQ ⊢
 clear hw6
 have hF6:=ExtBut.ext hF5 hS6 (fun b h=>h.1)
 replace hXa:=Lib.hid (ExtBut.trans hXa.out hS6)
 replace hXc:=Lib.hid (ExtBut.trans hXc.out hS6)
 clear hS6
 have bM_0 : World.cell? w6s ⟨w.heap.size,0,none⟩=some (.slice ca m.mem.al.length cac):=bM.cell 0
 have bM_1 : World.cell? w6s ⟨w.heap.size,1,none⟩=some (.int .i64 m.mem.next):=bM.cell 1
 have bM_2 : World.cell? w6s ⟨w.heap.size,2,none⟩=some (.slice ck m.stks.length ckc):=bM.cell 2
 have bM_3 : World.cell? w6s ⟨w.heap.size,3,none⟩=some (.slice cr m.run.length crc):=bM.cell 3
 have bM_4 : World.cell? w6s ⟨w.heap.size,4,none⟩=some (.int .i64 m.tag):=bM.cell 4
 have bM_5 : World.cell? w6s ⟨w.heap.size,5,none⟩=some (.int .i64 m.call):=bM.cell 5
 have bM_f0 : World.frozen? w6s ⟨w.heap.size,0,none⟩=false:=bM.frozen 0
 have bM_f1 : World.frozen? w6s ⟨w.heap.size,1,none⟩=false:=bM.frozen 1
 have bM_f2 : World.frozen? w6s ⟨w.heap.size,2,none⟩=false:=bM.frozen 2
 have bM_f3 : World.frozen? w6s ⟨w.heap.size,3,none⟩=false:=bM.frozen 3
 have bM_f4 : World.frozen? w6s ⟨w.heap.size,4,none⟩=false:=bM.frozen 4
 have bM_f5 : World.frozen? w6s ⟨w.heap.size,5,none⟩=false:=bM.frozen 5
 have bM_l:=bM.lt
 obtain ⟨bQ_0,bQ_1,bQ_l⟩:=bQ.c2
 go_upto_region 7 with fail
 clear bM_0 bM_1 bM_2 bM_3 bM_4 bM_5 bM_f0 bM_f1 bM_f2 bM_f3 bM_f4 bM_f5 bM_l bQ_0 bQ_1 bQ_l
 have hS7 : ExtBut (fun b=>w.heap.size≤b∧b < w.heap.size+2) w6s (World.setCell (World.setCell w6s ⟨w.heap.size,0,none⟩ (.slice xa FL.length xc)) ⟨w.heap.size,1,none⟩ (.int .i64 m.mem.next)):=by (repeat' with_reducible first | exact ExtBut.refl _ _ | refine ExtBut.dr ?_ | refine ExtBut.sc ?_ ?_ | fail) <;> dsimp only <;> omega
 replace bM:=(Box.setL (Box.setL bM 0 (.slice xa FL.length xc)) 1 (.int .i64 m.mem.next))
 simp only [List.set_cons_zero,List.set_cons_succ] at bM
 replace bR:=(Box.other (Box.other bR (p:=⟨w.heap.size,0,none⟩) (by simp) (.slice xa FL.length xc)) (p:=⟨w.heap.size,1,none⟩) (by simp) (.int .i64 m.mem.next))
 replace bQ:=(Box.other (Box.other bQ (p:=⟨w.heap.size,0,none⟩) (by have:=szbQ.out;show w.heap.size≠w2.heap.size;omega) (.slice xa FL.length xc)) (p:=⟨w.heap.size,1,none⟩) (by have:=szbQ.out;show w.heap.size≠w2.heap.size;omega) (.int .i64 m.mem.next))
 obtain ⟨w7s,hw7⟩ : ∃ z,(World.setCell (World.setCell w6s ⟨w.heap.size,0,none⟩ (.slice xa FL.length xc)) ⟨w.heap.size,1,none⟩ (.int .i64 m.mem.next))=z:=⟨_,rfl⟩
 rw [hw7] at hS7 bM bR bQ ⊢
 clear hw7
 have hF7:=ExtBut.ext hF6 hS7 (fun b h=>h.1)
 replace hXa:=Lib.hid (ExtBut.trans hXa.out hS7)
 replace hXc:=Lib.hid (ExtBut.trans hXc.out hS7)
 clear hS7
 have hCA:=Cloned.but hC.out hXc.out (fun b h1 h2=>by have:=hXcs.out;omega)
 have hMem : Fq (fun b=>w.heap.size+2≤b∧b < w3b.heap.size) w7s (fun w=>Als w (.slice xa FL.length xc) FL):=hx.out.to hXa.out (fun b h1 _ h2=>by have:=hXas.out;omega) (fun b h1 h2=>⟨by have:=hXas.out;omega,by have:=hXa_hXc.out;omega⟩)
 have hlow : ∀ g,(Value.slice ck m.stks.length ckc).ownBlock=some g→w3b.heap.size≤g:=fun g e=>(hCA.outer.lt e).1
 have hP:=monitor_forget1 (al:=FL) (sa := .slice xa FL.length xc) (S:=fun b=>(Value.slice ck m.stks.length ckc).ownBlock=some b) (B:=w2.heap.size) (bQ.cell 0) (fun h=>by have h1:=hlow _ h;have h2:=hPl.out;omega) (fun w hX=>(hMem.but hX (fun b h1 _ h2=>by have:=hlow b h2;omega)).read)
 have hD:=deleteFunc_stacks callFunc_forget1 hP hCA.outer hCA.len (fun s hs=>by
  obtain ⟨i,hi⟩:=List.mem_iff_getElem?.1 hs
  have hil:=(List.getElem?_eq_some_iff.1 hi).1
  rw [hCA.len] at hil
  obtain ⟨us,hO⟩:=(hCA.row i s _ hi (show m.stks[i]? = some m.stks[i] by simp)).2.1
  obtain ⟨a,n,e,-⟩:=hO.sl.slice_form
  exact ⟨a,_,n,e⟩) (Cloned.own hCA).read
 replace hD:=Lib.hid hD;replace hMem:=Lib.hid hMem;replace hCA:=Lib.hid hCA;replace hlow:=Lib.hid hlow
 clear hP
 obtain ⟨bM_0,bM_1,bM_2,bM_3,bM_4,bM_5,bM_l⟩:=bM.c6
 obtain ⟨bQ_0,bQ_1,bQ_l⟩:=bQ.c2
 go_wp2_with fail
 clear bM_0 bM_1 bM_2 bM_3 bM_4 bM_5 bM_l bQ_0 bQ_1 bQ_l
 refine hD.out.mono ?_
 rintro e w5 ⟨fa,fn,fc,rfl,hfn,hfo2,hfF,hX5⟩
 have hlw:=hlow.out
 have hFin:=Cloned.deleted hCA.out hfn hfF hX5
 have hMem2:=Fq.to (S':=fun b=>w.heap.size+2≤b) hMem.out hX5 (fun b h1 _ h2=>by have:=hlw b h2;omega) (fun b h1 _=>h1.1)
 have hRun2:=Fq.to (S':=fun b=>w.heap.size+2≤b) hCA.out.run hX5 (fun b h1 _ h2=>by have h3:=hCA.out.out0 b h2;have:=h1.2;omega) (fun b h1 _=>by have:=h1.1;have:=hXcs.out;omega)
 have hsz5:=hX5.size
 have bM5:=Box.but bM hX5 (fun h=>by have:=hlw _ h;have:=hXcs.out;omega)
 have bR5:=Box.but bR hX5 (fun h=>by have:=hlw _ h;have:=hXcs.out;omega)
 have hF5:=ExtBut.ext hF7 hX5 (fun b h=>by have:=hlw b h;have:=hXcs.out;omega)
 replace hFin:=Lib.hid hFin;replace hMem2:=Lib.hid hMem2;replace hRun2:=Lib.hid hRun2
 clear hfn hfo2 hfF hX5 hlw bM bR bQ
 have bM:=bM5;have bR:=bR5
 clear bM5 bR5
 have hXz:=Lib.hid (ExtBut.refl (fun b=>w.heap.size≤b∧b < w.heap.size+2) w5)
 have bM_0 : World.cell? w5 ⟨w.heap.size,0,none⟩=some (.slice xa FL.length xc):=bM.cell 0
 have bM_1 : World.cell? w5 ⟨w.heap.size,1,none⟩=some (.int .i64 m.mem.next):=bM.cell 1
 have bM_2 : World.cell? w5 ⟨w.heap.size,2,none⟩=some (.slice ck m.stks.length ckc):=bM.cell 2
 have bM_3 : World.cell? w5 ⟨w.heap.size,3,none⟩=some (.slice cr m.run.length crc):=bM.cell 3
 have bM_4 : World.cell? w5 ⟨w.heap.size,4,none⟩=some (.int .i64 m.tag):=bM.cell 4
 have bM_5 : World.cell? w5 ⟨w.heap.size,5,none⟩=some (.int .i64 m.call):=bM.cell 5
 have bM_f0 : World.frozen? w5 ⟨w.heap.size,0,none⟩=false:=bM.frozen 0
 have bM_f1 : World.frozen? w5 ⟨w.heap.size,1,none⟩=false:=bM.frozen 1
 have bM_f2 : World.frozen? w5 ⟨w.heap.size,2,none⟩=false:=bM.frozen 2
 have bM_f3 : World.frozen? w5 ⟨w.heap.size,3,none⟩=false:=bM.frozen 3
 have bM_f4 : World.frozen? w5 ⟨w.heap.size,4,none⟩=false:=bM.frozen 4
 have bM_f5 : World.frozen? w5 ⟨w.heap.size,5,none⟩=false:=bM.frozen 5
 have bM_l:=bM.lt
 go_upto_region 8 with fail
 clear bM_0 bM_1 bM_2 bM_3 bM_4 bM_5 bM_f0 bM_f1 bM_f2 bM_f3 bM_f4 bM_f5 bM_l
 have hS8 : ExtBut (fun b=>w.heap.size≤b∧b < w.heap.size+2) w5 (World.setCell w5 ⟨w.heap.size,2,none⟩ (.slice fa fn fc)):=((ExtBut.setCell w5 ⟨w.heap.size,2,none⟩ (.slice fa fn fc)).mono (S':=(fun b=>w.heap.size≤b∧b < w.heap.size+2)) (fun b _ h=>by have h' : b=w.heap.size:=h;omega))
 replace bM:=(Box.setL bM 2 (.slice fa fn fc))
 simp only [List.set_cons_zero,List.set_cons_succ] at bM
 replace bR:=(Box.other bR (p:=⟨w.heap.size,2,none⟩) (by simp) (.slice fa fn fc))
 obtain ⟨w8s,hw8⟩ : ∃ z,(World.setCell w5 ⟨w.heap.size,2,none⟩ (.slice fa fn fc))=z:=⟨_,rfl⟩
 rw [hw8] at hS8 bM bR ⊢
 clear hw8
 have hF8:=ExtBut.ext hF5 hS8 (fun b h=>h.1)
 replace hXz:=Lib.hid (ExtBut.trans hXz.out hS8)
 clear hS8
 obtain ⟨bM_0,bM_1,bM_2,bM_3,bM_4,bM_5,bM_l⟩:=bM.c6
 have bR_0 : World.cell? w8s ⟨w.heap.size+1,0,none⟩=some (.slice none 0 0):=bR.cell 0
 have bR_1 : World.cell? w8s ⟨w.heap.size+1,1,none⟩=some (.int .i64 0):=bR.cell 1
 have bR_2 : World.cell? w8s ⟨w.heap.size+1,2,none⟩=some (.slice none 0 0):=bR.cell 2
 have bR_3 : World.cell? w8s ⟨w.heap.size+1,3,none⟩=some (.slice none 0 0):=bR.cell 3
 have bR_4 : World.cell? w8s ⟨w.heap.size+1,4,none⟩=some (.int .i64 0):=bR.cell 4
 have bR_5 : World.cell? w8s ⟨w.heap.size+1,5,none⟩=some (.int .i64 0):=bR.cell 5
 have bR_f0 : World.frozen? w8s ⟨w.heap.size+1,0,none⟩=false:=bR.frozen 0
 have bR_f1 : World.frozen? w8s ⟨w.heap.size+1,1,none⟩=false:=bR.frozen 1
 have bR_f2 : World.frozen? w8s ⟨w.heap.size+1,2,none⟩=false:=bR.frozen 2
 have bR_f3 : World.frozen? w8s ⟨w.heap.size+1,3,none⟩=false:=bR.frozen 3
 have bR_f4 : World.frozen? w8s ⟨w.heap.size+1,4,none⟩=false:=bR.frozen 4
 have bR_f5 : World.frozen? w8s ⟨w.heap.size+1,5,none⟩=false:=bR.frozen 5
 have bR_l:=bR.lt
 go_wp2
 rw [hres.out]
 have hXe : ExtBut (fun b=>w.heap.size≤b∧b < w.heap.size+2) w8s (World.setCell (World.setCell (World.setCell (World.setCell (World.setCell (World.setCell w8s ⟨w.heap.size+1,0,none⟩ (.slice xa FL.length xc)) ⟨w.heap.size+1,1,none⟩ (.int .i64 m.mem.next)) ⟨w.heap.size+1,2,none⟩ (.slice fa fn fc)) ⟨w.heap.size+1,3,none⟩ (.slice cr m.run.length crc)) ⟨w.heap.size+1,4,none⟩ (.int .i64 m.tag)) ⟨w.heap.size+1,5,none⟩ (.int .i64 m.call)):=by (repeat' with_reducible first | exact ExtBut.refl _ _ | refine ExtBut.dr ?_ | refine ExtBut.sc ?_ ?_ | fail) <;> dsimp only <;> omega
 refine bodyPost_ret (v := .tuple #[.agg #[.slice xa FL.length xc,.int .i64 m.mem.next,.slice fa fn fc,.slice cr m.run.length crc,.int .i64 m.tag,.int .i64 m.call],.int .i64 0]) (by simp [results,Tryz.f16,go_sem,bR_0,bR_1,bR_2,bR_3,bR_4,bR_5]) rfl ?_
 have hFe:=ExtBut.ext hF8 hXe (fun b h=>h.1)
 have hXze:=ExtBut.trans hXz.out hXe
 have hFe2:=hFin.out
 rw [← hFLh.out] at hFe2
 have hq : (fun x : Stk => !(!((m.mem.al.filter (·.live)).any fun a=>a.num == x.num)))=fun x=>liveNum m.mem.al x.num:=by funext x;rw [Bool.not_not];rfl
 rw [hq,hkept.out] at hFe2
 refine ⟨_,rfl,FrMon.of_fs (m:=⟨⟨FL,m.mem.next⟩,keptK m.stks m.mem.al,m.run,m.tag,m.call⟩) (hMem2.out.to (S':=fun b=>w.heap.size≤b) hXze (fun b h1 _ h2=>by omega) (fun b h1 _=>by omega)) (hFe2.to (S':=fun b=>w.heap.size≤b) hXze (fun b h1 _ h2=>by have:=hXcs.out;omega) (fun b h1 _=>by have:=hXcs.out;omega)) (hRun2.out.to (S':=fun b=>w.heap.size≤b) hXze (fun b h1 _ h2=>by omega) (fun b h1 _=>by omega)),hFe⟩
end Go.Proofs.YtepdbdckjmkbhaaGreatDoor
