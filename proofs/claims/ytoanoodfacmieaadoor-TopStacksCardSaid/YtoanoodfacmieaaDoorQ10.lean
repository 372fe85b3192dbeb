/- Several texts in one: MonB, MonC1, MonC2. -/
import Derived.Test.YtoanoodfacmieaaDoorQ04
import Derived.Test.YtoanoodfacmieaaDoorQ02
import Derived.Lib.AppendZeros
import Derived.Test.YtoanoodfacmieaaDoorQ06
import Derived.Test.YtoanoodfacmieaaDoorQ07
import Derived.BigQuiet
/- Contracts: slices.Grow of nil and slices.Concat at stacks of items. -/
namespace Go.Proofs.YtoanoodfacmieaaDoor
set_option maxRecDepth 100000
open Go.RowKit
theorem wpList_append_zeros {P : Program} {w : World} {ops : Array Oper} {rest : List Oper} {o : Oper} {a : Act} {Q : Exit→Act→World→Prop} (hgd : o.guard=none) (s x : Operand) (t tn : TypeId)
  (ho : o.op = .call { callee := .builtin .append,args:=#[s,x],argTypes:=#[t,tn] }) {n : Nat} {kq kn : IntKind} (hs : a.eval s = .slice none 0 0) (hu : a.eval x = .int kq n) {e : TypeId} {i : TypeInfo} {z : Value} {k : Nat}
  (ht : P.underlying t=some (.slice e)) (htn : P.underlying tn=some (.int kn)) (hi : P.info? e=some i) (hz : i.zero=some z) (hik : i.size=k) (hzk : z.cells.size=k) (h0 : 0 < n) (hk : 0 < k) (h63 : n≤maxLen) (hbytes : n * i.bytes≤140737488355328)
  (h : ∀ v' w',(∃ g cap cur,v' = .slice (some ⟨g,0,none⟩) n cap∧w.heap.size≤g∧w'.heap[g]? = some (.cells cur e (0,0))∧n≤cap∧cap≤maxLen∧cur.size=cap * k)→Ext w w'→wpList P ops Q rest (a.put o.dst v') w') : wpList P ops Q (o :: rest) a w:=by
 refine wpList_plain hgd fun _ hK => ?_
 subst hik
 have hr:=Go.Lib.run_append_nil_zeros (P:=P) w t tn o.type e i z kq kn ht htn hi hz n h0 hk (by simp only [maxLen] at h63;omega) (by omega)
 have hge : n≤grownCap w n 0 e:=grownCap_ge w n 0 e
 have hcm : grownCap w n 0 e≤maxLen:=grownCap_le_maxLen w n 0 e h63
 unfold Oper.wp execOp
 simp only [ho,resolve,invoke,builtin,Sem.run_bind,Sem.run_pure,Result.andThen_ok,List.map_toArray,List.map_cons,List.map_nil,hs,hu,hr]
 refine hK _ _ (h _ _ ⟨w.heap.size,_,_,rfl,Nat.le_refl _,heap_alloc_new w.drew _,hge,hcm,?_⟩ ((Ext.refl w).drew.alloc _))
 rw [Array.size_append,size_zeroCells,size_zeroCells,hzk,← Nat.add_mul]
 congr 1
 omega
set_option maxHeartbeats 800000 in
theorem grow_Items {n : Nat} (hn : n≤2000) (w : World) : Calls Tryd.prog 74 #[.slice none 0 0,.int .i64 (n : Int)] w fun e w' => ∃ v,e = .returned v∧OwnI w' w.heap.size v []∧Ext w w':=by
 obtain ⟨ii,iz,hi,hz,hi3,hz3,hby⟩:=Item.infoE
 have hs0 : ∀ w,(Instr.slice 57 (.slice none 0 0) none (some (.int .i64 0)) none).run Tryd.prog w = .ok (.slice none 0 0) w:=slice_upto_Stack none [] 0 0 0 rfl (by decide)
 by_cases h0 : n=0
 ·subst h0
  go_enter Tryd.func74,Tryd.ntmps74
  go_wp2
  go_ret
  exact ⟨_,rfl,OwnI.nil _ _,Ext.refl _⟩
 ·have q0 : decide ((n : Int) < 0)=false:=decide_eq_false (by omega)
  have q1 : decide (0 < (n : Int))=true:=decide_eq_true (by omega)
  have q1' : decide (0 < n)=true:=decide_eq_true (by omega)
  have w1 : IntKind.i64.wrap (n : Int)=(n : Int):=IntWalk.i64_in _ (by omega)
  have hs1 : ∀ (g cap : Nat) (w : World),(Instr.slice 57 (.slice (some ⟨g,0,none⟩) n cap) none (some (.int .i64 0)) none).run Tryd.prog w = .ok (.slice (some ⟨g,0,none⟩) 0 cap) w:=fun g cap w=>run_slice_upto Tryd.underlying57 hi (some ⟨g,0,none⟩) n cap 0 0 rfl (Nat.zero_le _) w
  have hi:=Lib.hid hi;have hz:=Lib.hid hz;have hi3:=Lib.hid hi3;have hz3:=Lib.hid hz3;have hby:=Lib.hid hby;have h0:=Lib.hid h0;have hn:=Lib.hid hn
  go_enter Tryd.func74,Tryd.ntmps74
  go_wp2_with (at_builtin;refine Hid.out ?_)
  refine Hid.mk ?_
  refine wpList_append_zeros rfl _ _ 57 3 rfl rfl rfl Tryd.underlying57 Tryd.underlying3 hi.out hz.out hi3.out hz3.out (by have:=h0.out;omega) (by decide) (by have:=hn.out;simp [maxLen];omega) (by rw [hby.out];have:=hn.out;omega) ?_
  rintro v' w' ⟨g,cap,cur,rfl,hg,hh,hnc,hcm,hcs⟩ hE
  have hH:=Lib.hid (And.intro hg (And.intro hh (And.intro hcm (And.intro hcs hE))))
  have hnc' : n≤cap:=hnc
  clear hg hh hcm hcs hE
  go_wp2
  go_ret
  exact ⟨_,rfl,⟨rfl,.inr ⟨g,cap,cur,rfl,hH.out.1,hH.out.2.1,Nat.zero_le _,hH.out.2.2.1,hH.out.2.2.2.1,by simp⟩⟩,hH.out.2.2.2.2⟩
theorem flatten_take_succ {l : List (List Item)} {k : Nat} {x : List Item} (hx : l[k]? = some x) : (l.take (k+1)).flatten=(l.take k).flatten ++ x:=by
 rw [List.take_add_one,hx]
 simp
theorem flatten_len {l : List (List Item)} (hb : ∀ s ∈ l,s.length≤600) : ∀ k,((l.take k).flatten).length≤k * 600:=by
 intro k
 induction k with
 | zero=>simp
 | succ k ih =>
  cases hx : l[k]? with
  | none=>rw [List.take_of_length_le (by have:=List.getElem?_eq_none_iff.1 hx;omega)];rw [List.take_of_length_le (by have:=List.getElem?_eq_none_iff.1 hx;omega)] at ih;omega
  | some x=>rw [flatten_take_succ hx,List.length_append];have:=hb x (List.mem_of_getElem? hx);omega
set_option maxHeartbeats 1600000 in
theorem concat_Items {l : List (List Item)} {v : Value} {w : World} (hl : Sts w v l) (h2 : l.length≤2) (hb : ∀ s ∈ l,s.length≤600) : Calls Tryd.prog 44 #[v] w fun e w' => ∃ u,e = .returned u∧OwnI w' w.heap.size u l.flatten∧Ext w w':=by
 obtain ⟨ii,iz,hi,hz,hi3,hz3,hby⟩:=Item.infoE
 have hi:=Lib.hid hi;have hz:=Lib.hid hz;have hi3:=Lib.hid hi3;have hz3:=Lib.hid hz3;have hby:=Lib.hid hby
 obtain ⟨a,cp,rfl,hlc,hcm,-⟩:=hl.form
 unfold maxLen at hcm
 have hlen:=Lib.hid (flatten_len hb)
 have hb:=Lib.hid hb
 go_enter Tryd.func44,Tryd.ntmps44
 go_wp2
 go_loopw [3,11] (fun sv iv wr => ∃ k : Nat,k≤l.length∧iv = .int .i64 k∧sv = .int .i64 (((l.take k).flatten).length : Nat)∧w=wr) (fun _ iv _=>l.length - (intOf iv).toNat)
 case atStart=>exact ⟨0,Nat.zero_le _,rfl,rfl,rfl⟩
 case round =>
  obtain ⟨k,hk,rfl,rfl,rfl⟩:=hrel
  by_cases hlt : k < l.length
  ·have hlt' : decide (k < l.length)=true:=decide_eq_true hlt
   obtain ⟨x,hx⟩ : ∃ x,l[k]? = some x:=⟨l[k],by simp [hlt]⟩
   obtain ⟨b,off,s,rfl,hbb,hc,hs⟩:=hl.cell hx
   obtain ⟨as',cs',rfl,-⟩:=hs.form
   have hxl:=hb.out x (List.mem_of_getElem? hx)
   have hfl:=hlen.out k
   have hsum : (((l.take k).flatten).length : Int)+(x.length : Int)=(((l.take (k+1)).flatten).length : Nat):=by rw [flatten_take_succ hx,List.length_append];omega
   have hfl2:=hlen.out (k+1)
   have hw1 : IntKind.i64.wrap ((((l.take k).flatten).length : Int)+(x.length : Int))=(((l.take (k+1)).flatten).length : Nat):=by rw [hsum];exact IntWalk.i64_in _ (by omega)
   have hi0 : (0 : Int)≤(k : Int):=by omega
   have hi1 : (k : Int) < (l.length : Int):=by omega
   have hneg : decide ((((l.take (k+1)).flatten).length : Int) < 0)=false:=decide_eq_false (by omega)
   replace hsum:=Lib.hid hsum
   replace hx:=Lib.hid hx
   replace hs:=Lib.hid hs
   generalize hA1 : ((l.take k).flatten).length=A1 at *
   generalize hA2 : ((l.take (k+1)).flatten).length=A2 at *
   replace hA1:=Lib.hid hA1
   replace hA2:=Lib.hid hA2
   go_wp2
   go_roundw
   case rel=>exact ⟨k+1,by omega,by go_num,by rw [hA2.out],by first | rfl | trivial⟩
   case measure=>simp [intOf];omega
  ·have hke : k=l.length:=by omega
   subst hke
   have hlt' : decide (l.length < l.length)=false:=decide_eq_false (by omega)
   rw [List.take_length]
   have hfl:=hlen.out l.length
   rw [List.take_length] at hfl
   obtain ⟨N,hN⟩ : ∃ N,l.flatten.length=N:=⟨_,rfl⟩
   rw [hN] at hfl ⊢
   replace hN:=Lib.hid hN
   clear hlt hk
   go_wp2_with fail
   refine (grow_Items (n:=N) (by omega) _).mono ?_
   rintro e w1 ⟨u,rfl,hO,hE⟩
   obtain ⟨ua,uc,rfl,-⟩:=(OwnI.its hO).form
   have hO0 : OwnI w1 w.heap.size (.slice ua ([] : List Item).length uc) ((l.take 0).flatten):=hO
   go_wp2
   go_loopw [6,27] (fun sv iv wr => ∃ k n : Nat,k≤l.length∧iv = .int .i64 k∧Hid (((l.take k).flatten).length=n)∧(∃ a c,sv = .slice a n c)∧Hid (OwnI wr w.heap.size sv ((l.take k).flatten))∧Ext w wr) (fun _ iv _=>l.length - (intOf iv).toNat)
   case atStart=>exact ⟨0,0,Nat.zero_le _,rfl,Hid.mk rfl,⟨_,_,rfl⟩,Hid.mk hO0,hE⟩
   case round =>
    obtain ⟨k,n,hk,rfl,hn,⟨sa,sc,rfl⟩,hW,hX⟩:=hrel
    by_cases hlt : k < l.length
    ·have hlt' : decide (k < l.length)=true:=decide_eq_true hlt
     obtain ⟨x,hx⟩ : ∃ x,l[k]? = some x:=⟨l[k],by simp [hlt]⟩
     obtain ⟨b,off,s,rfl,hbb,hc,hs⟩:=(hl.ext hX).cell hx
     obtain ⟨as',cs',rfl,-⟩:=hs.form
     have hxl:=hb.out x (List.mem_of_getElem? hx)
     have hfl:=hlen.out k
     rw [hn.out] at hfl
     have hi0 : (0 : Int)≤(k : Int):=by omega
     have hi1 : (k : Int) < (l.length : Int):=by omega
     have hbd : Hid (n+x.length≤2000):=Hid.mk (by omega)
     have hWn : Hid (Own wr w.heap.size 52 3 (.slice sa n sc) n (((l.take k).flatten).flatMap Item.row)):=Hid.mk (by have h:=hW.out;unfold OwnI at h;rwa [hn.out] at h)
     have hH:=Lib.hid (And.intro hWn.out (And.intro hs (And.intro hX hx)))
     have hsz : Hid (w.heap.size≤wr.heap.size):=Hid.mk hX.size
     clear hs hX hx hxl hfl hWn hW
     go_wp2_with (at_builtin;refine Hid.out ?_)
     refine Hid.mk ?_
     refine wpList_append_any rfl _ _ 57 57 rfl rfl rfl Tryd.underlying57 Tryd.underlying57 hi.out hz.out hi3.out hz3.out hH.out.1 hH.out.2.1 ?_ (Nat.le_trans hbd.out (by simp [maxLen])) (by rw [hby.out];have:=hbd.out;omega) hsz.out ?_
     ·intro u hu
      obtain ⟨y,hy,hu⟩:=List.mem_flatMap.1 hu
      simp only [Item.row,List.mem_cons,List.not_mem_nil,or_false] at hu
      rcases hu with rfl | rfl | rfl <;> rfl
     intro v' w' hO' hK' _ _
     have hn' : Hid (((l.take (k+1)).flatten).length=n+x.length):=Hid.mk (by rw [flatten_take_succ hH.out.2.2.2,List.length_append,hn.out])
     have hN' : Hid (OwnI w' w.heap.size v' ((l.take (k+1)).flatten)):=Hid.mk (by
      unfold OwnI
      rw [hn'.out,flatten_take_succ hH.out.2.2.2,List.flatMap_append]
      exact hO')
     obtain ⟨a',c',rfl,-⟩:=(Own.sl hO').slice_form
     have hXn : Hid (Ext w w'):=Hid.mk (Below.trans hH.out.2.2.1 hK'.below)
     clear hO' hK'
     go_wp2
     go_roundw
     case rel=>exact ⟨k+1,_,by omega,by go_num,hn',⟨_,_,rfl⟩,hN',hXn.out⟩
     case measure=>simp [intOf];omega
    ·have hke : k=l.length:=by omega
     subst hke
     have hlt' : decide (l.length < l.length)=false:=decide_eq_false (by omega)
     have hW2 : Hid (OwnI wr w.heap.size (.slice sa n sc) l.flatten):=Hid.mk (by have h:=hW.out;rwa [List.take_length] at h)
     clear hlt hk hW hn
     go_wp2
     go_ret
     exact ⟨_,rfl,hW2.out,hX⟩
end Go.Proofs.YtoanoodfacmieaaDoor

/- Contracts: monitor.counted; monitor.Check where the head fails. (printed by gen/mon35.py) -/
namespace Go.Proofs.YtoanoodfacmieaaDoor
set_option maxRecDepth 100000
open Go.RowKit
theorem headM_parts {m : Mon} (h : headM m=true) : (((okM m.mem.al m.mem.next=true∧(m.stks.length == m.mem.al.length)=true)∧cntd m.tag=true)∧cntd m.call=true)∧okR m.run=true:=by
 unfold headM at h
 simpa only [Bool.and_eq_true] using h
theorem mon_counted (n : Int) (w : World) : Calls Tryd.prog 42 #[.int .i64 n] w fun e w'=>e = .returned (.bool (cntd n))∧w=w':=by
 by_cases h0 : 1≤n <;> by_cases h1 : n≤1000000
 all_goals
  go_enter Tryd.func42,Tryd.ntmps42
  go_wp2
  go_ret
  exact ⟨by simp [cntd,h0,h1],rfl⟩
set_option maxRecDepth 100000 in
set_option maxHeartbeats 12800000 in
theorem mon_Check_head {A : List Alloc} {nx : Int} {K : List Stk} {R : List Int} {tg cl : Int} {sa ss sr : Value} {w : World} (hA : Als w sa A) (hn : i64B nx) (hK : Kts w ss K) (hR : Nts w sr R) (hh : headM ⟨⟨A,nx⟩,K,R,tg,cl⟩=false) :
  Calls Tryd.prog 18 #[.agg #[sa,.int .i64 nx,ss,sr,.int .i64 tg,.int .i64 cl]] w fun e w'=>e = .returned (.int .i64 (monErr ⟨⟨A,nx⟩,K,R,tg,cl⟩))∧Ext w w':=by
 obtain ⟨aa,ac,rfl,hac,hacm,-⟩:=hA.form
 obtain ⟨ka,kc,rfl,hkc,hkcm,-⟩:=hK.form
 obtain ⟨ra,rc,rfl,hrc,hrcm,-⟩:=hR.form
 unfold maxLen at hacm hkcm hrcm
 have hE0:=(Ext.refl w).alloc (.cells #[.slice aa A.length ac,.int .i64 nx,.slice ka K.length kc,.slice ra R.length rc,.int .i64 tg,.int .i64 cl] 35)
 have bM:=Box.new w 35 #[.slice aa A.length ac,.int .i64 nx,.slice ka K.length kc,.slice ra R.length rc,.int .i64 tg,.int .i64 cl]
 replace hA:=Lib.hid (hA.ext hE0);replace hK:=Lib.hid (hK.ext hE0);replace hR:=Lib.hid (hR.ext hE0)
 cases h1 : okM A nx
 ·have q1:=Lib.hid (memErr_bad h1)
  have hres:=Lib.hid (monErr_head (m:=⟨⟨A,nx⟩,K,R,tg,cl⟩) hh)
  clear h1 hh
  go_enter Tryd.func18,Tryd.ntmps18
  have m0 : World.cell? (World.alloc w (.cells #[.slice aa A.length ac,.int .i64 nx,.slice ka K.length kc,.slice (ra) R.length rc,.int .i64 tg,.int .i64 cl] 35)) ⟨w.heap.size,0,none⟩=some (.slice aa A.length ac):=bM.cell 0
  have m1 : World.cell? (World.alloc w (.cells #[.slice aa A.length ac,.int .i64 nx,.slice ka K.length kc,.slice (ra) R.length rc,.int .i64 tg,.int .i64 cl] 35)) ⟨w.heap.size,1,none⟩=some (.int .i64 nx):=bM.cell 1
  have m2 : World.cell? (World.alloc w (.cells #[.slice aa A.length ac,.int .i64 nx,.slice ka K.length kc,.slice (ra) R.length rc,.int .i64 tg,.int .i64 cl] 35)) ⟨w.heap.size,2,none⟩=some (.slice ka K.length kc):=bM.cell 2
  have m3 : World.cell? (World.alloc w (.cells #[.slice aa A.length ac,.int .i64 nx,.slice ka K.length kc,.slice (ra) R.length rc,.int .i64 tg,.int .i64 cl] 35)) ⟨w.heap.size,3,none⟩=some (.slice ra R.length rc):=bM.cell 3
  have m4 : World.cell? (World.alloc w (.cells #[.slice aa A.length ac,.int .i64 nx,.slice ka K.length kc,.slice (ra) R.length rc,.int .i64 tg,.int .i64 cl] 35)) ⟨w.heap.size,4,none⟩=some (.int .i64 tg):=bM.cell 4
  have m5 : World.cell? (World.alloc w (.cells #[.slice aa A.length ac,.int .i64 nx,.slice ka K.length kc,.slice (ra) R.length rc,.int .i64 tg,.int .i64 cl] 35)) ⟨w.heap.size,5,none⟩=some (.int .i64 cl):=bM.cell 5
  have mlt:=bM.lt
  go_wp2_with fail
  refine (allocs_Check hA.out hn).mono ?_
  rintro e w1 ⟨rfl,hE1⟩
  rw [q1.out]
  clear m0 m1 m2 m3 m4 m5 mlt
  replace bM:=bM.ext hE1
  have m0 : World.cell? w1 ⟨w.heap.size,0,none⟩=some (.slice aa A.length ac):=bM.cell 0
  have m1 : World.cell? w1 ⟨w.heap.size,1,none⟩=some (.int .i64 nx):=bM.cell 1
  have m2 : World.cell? w1 ⟨w.heap.size,2,none⟩=some (.slice ka K.length kc):=bM.cell 2
  have m3 : World.cell? w1 ⟨w.heap.size,3,none⟩=some (.slice ra R.length rc):=bM.cell 3
  have m4 : World.cell? w1 ⟨w.heap.size,4,none⟩=some (.int .i64 tg):=bM.cell 4
  have m5 : World.cell? w1 ⟨w.heap.size,5,none⟩=some (.int .i64 cl):=bM.cell 5
  have mlt:=bM.lt
  go_wp2
  go_ret
  rw [hres.out]
  exact ⟨rfl,Ext.trans hE0 hE1⟩
 have q1:=Lib.hid (memErr_ok h1)
 cases h2 : K.length == A.length
 ·have hres:=Lib.hid (monErr_head (m:=⟨⟨A,nx⟩,K,R,tg,cl⟩) hh)
  have g1 : (K.length != A.length)=true:=by rw [bne,h2];rfl
  have g2 : ((K.length : Int) != (A.length : Int))=true:=by simp only [bne_iff_ne,ne_eq,Int.natCast_inj];simpa using h2
  clear h1 hh
  replace h2:=Lib.hid h2
  go_enter Tryd.func18,Tryd.ntmps18
  have m0 : World.cell? (World.alloc w (.cells #[.slice aa A.length ac,.int .i64 nx,.slice ka K.length kc,.slice (ra) R.length rc,.int .i64 tg,.int .i64 cl] 35)) ⟨w.heap.size,0,none⟩=some (.slice aa A.length ac):=bM.cell 0
  have m1 : World.cell? (World.alloc w (.cells #[.slice aa A.length ac,.int .i64 nx,.slice ka K.length kc,.slice (ra) R.length rc,.int .i64 tg,.int .i64 cl] 35)) ⟨w.heap.size,1,none⟩=some (.int .i64 nx):=bM.cell 1
  have m2 : World.cell? (World.alloc w (.cells #[.slice aa A.length ac,.int .i64 nx,.slice ka K.length kc,.slice (ra) R.length rc,.int .i64 tg,.int .i64 cl] 35)) ⟨w.heap.size,2,none⟩=some (.slice ka K.length kc):=bM.cell 2
  have m3 : World.cell? (World.alloc w (.cells #[.slice aa A.length ac,.int .i64 nx,.slice ka K.length kc,.slice (ra) R.length rc,.int .i64 tg,.int .i64 cl] 35)) ⟨w.heap.size,3,none⟩=some (.slice ra R.length rc):=bM.cell 3
  have m4 : World.cell? (World.alloc w (.cells #[.slice aa A.length ac,.int .i64 nx,.slice ka K.length kc,.slice (ra) R.length rc,.int .i64 tg,.int .i64 cl] 35)) ⟨w.heap.size,4,none⟩=some (.int .i64 tg):=bM.cell 4
  have m5 : World.cell? (World.alloc w (.cells #[.slice aa A.length ac,.int .i64 nx,.slice ka K.length kc,.slice (ra) R.length rc,.int .i64 tg,.int .i64 cl] 35)) ⟨w.heap.size,5,none⟩=some (.int .i64 cl):=bM.cell 5
  have mlt:=bM.lt
  go_wp2_with fail
  refine (allocs_Check hA.out hn).mono ?_
  rintro e w1 ⟨rfl,hE1⟩
  rw [q1.out]
  clear m0 m1 m2 m3 m4 m5 mlt
  replace bM:=bM.ext hE1
  have m0 : World.cell? w1 ⟨w.heap.size,0,none⟩=some (.slice aa A.length ac):=bM.cell 0
  have m1 : World.cell? w1 ⟨w.heap.size,1,none⟩=some (.int .i64 nx):=bM.cell 1
  have m2 : World.cell? w1 ⟨w.heap.size,2,none⟩=some (.slice ka K.length kc):=bM.cell 2
  have m3 : World.cell? w1 ⟨w.heap.size,3,none⟩=some (.slice ra R.length rc):=bM.cell 3
  have m4 : World.cell? w1 ⟨w.heap.size,4,none⟩=some (.int .i64 tg):=bM.cell 4
  have m5 : World.cell? w1 ⟨w.heap.size,5,none⟩=some (.int .i64 cl):=bM.cell 5
  have mlt:=bM.lt
  go_wp2
  go_ret
  rw [hres.out]
  exact ⟨rfl,Ext.trans hE0 hE1⟩
 have g1 : (K.length != A.length)=false:=by rw [bne,h2];rfl
 have g2 : ((K.length : Int) != (A.length : Int))=false:=by have:=eq_of_beq h2;rw [this];simp
 have h2e:=Lib.hid (eq_of_beq h2)
 cases h3 : cntd tg
 ·have q3:=Lib.hid h3
  have hres:=Lib.hid (monErr_head (m:=⟨⟨A,nx⟩,K,R,tg,cl⟩) hh)
  clear h1 h3 hh
  replace h2:=Lib.hid h2
  go_enter Tryd.func18,Tryd.ntmps18
  have m0 : World.cell? (World.alloc w (.cells #[.slice aa A.length ac,.int .i64 nx,.slice ka K.length kc,.slice (ra) R.length rc,.int .i64 tg,.int .i64 cl] 35)) ⟨w.heap.size,0,none⟩=some (.slice aa A.length ac):=bM.cell 0
  have m1 : World.cell? (World.alloc w (.cells #[.slice aa A.length ac,.int .i64 nx,.slice ka K.length kc,.slice (ra) R.length rc,.int .i64 tg,.int .i64 cl] 35)) ⟨w.heap.size,1,none⟩=some (.int .i64 nx):=bM.cell 1
  have m2 : World.cell? (World.alloc w (.cells #[.slice aa A.length ac,.int .i64 nx,.slice ka K.length kc,.slice (ra) R.length rc,.int .i64 tg,.int .i64 cl] 35)) ⟨w.heap.size,2,none⟩=some (.slice ka K.length kc):=bM.cell 2
  have m3 : World.cell? (World.alloc w (.cells #[.slice aa A.length ac,.int .i64 nx,.slice ka K.length kc,.slice (ra) R.length rc,.int .i64 tg,.int .i64 cl] 35)) ⟨w.heap.size,3,none⟩=some (.slice ra R.length rc):=bM.cell 3
  have m4 : World.cell? (World.alloc w (.cells #[.slice aa A.length ac,.int .i64 nx,.slice ka K.length kc,.slice (ra) R.length rc,.int .i64 tg,.int .i64 cl] 35)) ⟨w.heap.size,4,none⟩=some (.int .i64 tg):=bM.cell 4
  have m5 : World.cell? (World.alloc w (.cells #[.slice aa A.length ac,.int .i64 nx,.slice ka K.length kc,.slice (ra) R.length rc,.int .i64 tg,.int .i64 cl] 35)) ⟨w.heap.size,5,none⟩=some (.int .i64 cl):=bM.cell 5
  have mlt:=bM.lt
  go_wp2_with fail
  refine (allocs_Check hA.out hn).mono ?_
  rintro e w1 ⟨rfl,hE1⟩
  rw [q1.out]
  clear m0 m1 m2 m3 m4 m5 mlt
  replace bM:=bM.ext hE1
  have m0 : World.cell? w1 ⟨w.heap.size,0,none⟩=some (.slice aa A.length ac):=bM.cell 0
  have m1 : World.cell? w1 ⟨w.heap.size,1,none⟩=some (.int .i64 nx):=bM.cell 1
  have m2 : World.cell? w1 ⟨w.heap.size,2,none⟩=some (.slice ka K.length kc):=bM.cell 2
  have m3 : World.cell? w1 ⟨w.heap.size,3,none⟩=some (.slice ra R.length rc):=bM.cell 3
  have m4 : World.cell? w1 ⟨w.heap.size,4,none⟩=some (.int .i64 tg):=bM.cell 4
  have m5 : World.cell? w1 ⟨w.heap.size,5,none⟩=some (.int .i64 cl):=bM.cell 5
  have mlt:=bM.lt
  go_wp2_with fail
  refine (mon_counted tg _).mono ?_
  rintro e w2 ⟨rfl,rfl⟩
  rw [q3.out]
  go_wp2
  go_ret
  rw [hres.out]
  exact ⟨rfl,Ext.trans hE0 hE1⟩
 have q3:=Lib.hid h3
 cases h4 : cntd cl
 ·have q4:=Lib.hid h4
  have hres:=Lib.hid (monErr_head (m:=⟨⟨A,nx⟩,K,R,tg,cl⟩) hh)
  clear h1 h3 h4 hh
  replace h2:=Lib.hid h2
  go_enter Tryd.func18,Tryd.ntmps18
  have m0 : World.cell? (World.alloc w (.cells #[.slice aa A.length ac,.int .i64 nx,.slice ka K.length kc,.slice (ra) R.length rc,.int .i64 tg,.int .i64 cl] 35)) ⟨w.heap.size,0,none⟩=some (.slice aa A.length ac):=bM.cell 0
  have m1 : World.cell? (World.alloc w (.cells #[.slice aa A.length ac,.int .i64 nx,.slice ka K.length kc,.slice (ra) R.length rc,.int .i64 tg,.int .i64 cl] 35)) ⟨w.heap.size,1,none⟩=some (.int .i64 nx):=bM.cell 1
  have m2 : World.cell? (World.alloc w (.cells #[.slice aa A.length ac,.int .i64 nx,.slice ka K.length kc,.slice (ra) R.length rc,.int .i64 tg,.int .i64 cl] 35)) ⟨w.heap.size,2,none⟩=some (.slice ka K.length kc):=bM.cell 2
  have m3 : World.cell? (World.alloc w (.cells #[.slice aa A.length ac,.int .i64 nx,.slice ka K.length kc,.slice (ra) R.length rc,.int .i64 tg,.int .i64 cl] 35)) ⟨w.heap.size,3,none⟩=some (.slice ra R.length rc):=bM.cell 3
  have m4 : World.cell? (World.alloc w (.cells #[.slice aa A.length ac,.int .i64 nx,.slice ka K.length kc,.slice (ra) R.length rc,.int .i64 tg,.int .i64 cl] 35)) ⟨w.heap.size,4,none⟩=some (.int .i64 tg):=bM.cell 4
  have m5 : World.cell? (World.alloc w (.cells #[.slice aa A.length ac,.int .i64 nx,.slice ka K.length kc,.slice (ra) R.length rc,.int .i64 tg,.int .i64 cl] 35)) ⟨w.heap.size,5,none⟩=some (.int .i64 cl):=bM.cell 5
  have mlt:=bM.lt
  go_wp2_with fail
  refine (allocs_Check hA.out hn).mono ?_
  rintro e w1 ⟨rfl,hE1⟩
  rw [q1.out]
  clear m0 m1 m2 m3 m4 m5 mlt
  replace bM:=bM.ext hE1
  have m0 : World.cell? w1 ⟨w.heap.size,0,none⟩=some (.slice aa A.length ac):=bM.cell 0
  have m1 : World.cell? w1 ⟨w.heap.size,1,none⟩=some (.int .i64 nx):=bM.cell 1
  have m2 : World.cell? w1 ⟨w.heap.size,2,none⟩=some (.slice ka K.length kc):=bM.cell 2
  have m3 : World.cell? w1 ⟨w.heap.size,3,none⟩=some (.slice ra R.length rc):=bM.cell 3
  have m4 : World.cell? w1 ⟨w.heap.size,4,none⟩=some (.int .i64 tg):=bM.cell 4
  have m5 : World.cell? w1 ⟨w.heap.size,5,none⟩=some (.int .i64 cl):=bM.cell 5
  have mlt:=bM.lt
  go_wp2_with fail
  refine (mon_counted tg _).mono ?_
  rintro e w2 ⟨rfl,rfl⟩
  rw [q3.out]
  go_wp2_with fail
  refine (mon_counted cl _).mono ?_
  rintro e w3 ⟨rfl,rfl⟩
  rw [q4.out]
  go_wp2
  go_ret
  rw [hres.out]
  exact ⟨rfl,Ext.trans hE0 hE1⟩
 have q4:=Lib.hid h4
 cases h5 : okR R
 ·have q5:=Lib.hid (runErr_bad h5)
  have hres:=Lib.hid (monErr_head (m:=⟨⟨A,nx⟩,K,R,tg,cl⟩) hh)
  clear h1 h3 h4 h5 hh
  replace h2:=Lib.hid h2
  go_enter Tryd.func18,Tryd.ntmps18
  have m0 : World.cell? (World.alloc w (.cells #[.slice aa A.length ac,.int .i64 nx,.slice ka K.length kc,.slice (ra) R.length rc,.int .i64 tg,.int .i64 cl] 35)) ⟨w.heap.size,0,none⟩=some (.slice aa A.length ac):=bM.cell 0
  have m1 : World.cell? (World.alloc w (.cells #[.slice aa A.length ac,.int .i64 nx,.slice ka K.length kc,.slice (ra) R.length rc,.int .i64 tg,.int .i64 cl] 35)) ⟨w.heap.size,1,none⟩=some (.int .i64 nx):=bM.cell 1
  have m2 : World.cell? (World.alloc w (.cells #[.slice aa A.length ac,.int .i64 nx,.slice ka K.length kc,.slice (ra) R.length rc,.int .i64 tg,.int .i64 cl] 35)) ⟨w.heap.size,2,none⟩=some (.slice ka K.length kc):=bM.cell 2
  have m3 : World.cell? (World.alloc w (.cells #[.slice aa A.length ac,.int .i64 nx,.slice ka K.length kc,.slice (ra) R.length rc,.int .i64 tg,.int .i64 cl] 35)) ⟨w.heap.size,3,none⟩=some (.slice ra R.length rc):=bM.cell 3
  have m4 : World.cell? (World.alloc w (.cells #[.slice aa A.length ac,.int .i64 nx,.slice ka K.length kc,.slice (ra) R.length rc,.int .i64 tg,.int .i64 cl] 35)) ⟨w.heap.size,4,none⟩=some (.int .i64 tg):=bM.cell 4
  have m5 : World.cell? (World.alloc w (.cells #[.slice aa A.length ac,.int .i64 nx,.slice ka K.length kc,.slice (ra) R.length rc,.int .i64 tg,.int .i64 cl] 35)) ⟨w.heap.size,5,none⟩=some (.int .i64 cl):=bM.cell 5
  have mlt:=bM.lt
  go_wp2_with fail
  refine (allocs_Check hA.out hn).mono ?_
  rintro e w1 ⟨rfl,hE1⟩
  rw [q1.out]
  clear m0 m1 m2 m3 m4 m5 mlt
  replace bM:=bM.ext hE1
  have m0 : World.cell? w1 ⟨w.heap.size,0,none⟩=some (.slice aa A.length ac):=bM.cell 0
  have m1 : World.cell? w1 ⟨w.heap.size,1,none⟩=some (.int .i64 nx):=bM.cell 1
  have m2 : World.cell? w1 ⟨w.heap.size,2,none⟩=some (.slice ka K.length kc):=bM.cell 2
  have m3 : World.cell? w1 ⟨w.heap.size,3,none⟩=some (.slice ra R.length rc):=bM.cell 3
  have m4 : World.cell? w1 ⟨w.heap.size,4,none⟩=some (.int .i64 tg):=bM.cell 4
  have m5 : World.cell? w1 ⟨w.heap.size,5,none⟩=some (.int .i64 cl):=bM.cell 5
  have mlt:=bM.lt
  go_wp2_with fail
  refine (mon_counted tg _).mono ?_
  rintro e w2 ⟨rfl,rfl⟩
  rw [q3.out]
  go_wp2_with fail
  refine (mon_counted cl _).mono ?_
  rintro e w3 ⟨rfl,rfl⟩
  rw [q4.out]
  go_wp2_with fail
  refine (guard_Check (hR.out.ext hE1)).mono ?_
  rintro e w4 ⟨rfl,rfl⟩
  rw [q5.out]
  go_wp2
  go_ret
  rw [hres.out]
  exact ⟨rfl,Ext.trans hE0 hE1⟩
 simp only [headM,h1,h2,h3,h4,h5,Bool.and_self] at hh
 cases hh
set_option maxRecDepth 100000 in
set_option maxHeartbeats 12800000 in
theorem mon_Check_last {A : List Alloc} {nx : Int} {K : List Stk} {R : List Int} {tg cl : Int} {sa ss sr : Value} {w : World} (hA : Als w sa A) (hn : i64B nx) (hK : Kts w ss K) (hR : Nts w sr R) (hh : headM ⟨⟨A,nx⟩,K,R,tg,cl⟩=true) (hl : lastM ⟨⟨A,nx⟩,K,R,tg,cl⟩=false) :
  Calls Tryd.prog 18 #[.agg #[sa,.int .i64 nx,ss,sr,.int .i64 tg,.int .i64 cl]] w fun e w'=>e = .returned (.int .i64 (monErr ⟨⟨A,nx⟩,K,R,tg,cl⟩))∧Ext w w':=by
 obtain ⟨aa,ac,rfl,hac,hacm,-⟩:=hA.form
 obtain ⟨ka,kc,rfl,hkc,hkcm,-⟩:=hK.form
 obtain ⟨ra,rc,rfl,hrc,hrcm,-⟩:=hR.form
 unfold maxLen at hacm hkcm hrcm
 have hE0:=(Ext.refl w).alloc (.cells #[.slice aa A.length ac,.int .i64 nx,.slice ka K.length kc,.slice ra R.length rc,.int .i64 tg,.int .i64 cl] 35)
 have bM:=Box.new w 35 #[.slice aa A.length ac,.int .i64 nx,.slice ka K.length kc,.slice ra R.length rc,.int .i64 tg,.int .i64 cl]
 replace hA:=Lib.hid (hA.ext hE0);replace hK:=Lib.hid (hK.ext hE0);replace hR:=Lib.hid (hR.ext hE0)
 obtain ⟨⟨⟨⟨h1,h2⟩,h3⟩,h4⟩,h5⟩:=headM_parts hh
 have q1:=Lib.hid (memErr_ok h1)
 have g1 : (K.length != A.length)=false:=by rw [bne,h2];rfl
 have g2 : ((K.length : Int) != (A.length : Int))=false:=by have:=eq_of_beq h2;rw [this];simp
 have h2e:=Lib.hid (eq_of_beq h2)
 have q3:=Lib.hid h3
 have q4:=Lib.hid h4
 have q5:=Lib.hid (runErr_ok h5)
 have hRl:=okR_len h5
 have w1 : IntKind.i64.wrap ((R.length : Int) - 1)=(R.length : Int) - 1:=IntWalk.i64_in _ (by omega)
 have hhead:=Lib.hid hh
 replace h2:=Lib.hid h2
 clear h1 h3 h4 h5 hh
 have hz : R.length≠0:=fun e=>by simp [lastM,e] at hl
 obtain ⟨rb,ro,rfl,_,rc0⟩:=hR.out.cell (last_is hz)
 have z1 : decide (0 < R.length)=true:=decide_eq_true (by omega)
 have z2 : (0 : Int)≤(R.length : Int) - 1:=by omega
 have z3 : (R.length : Int) - 1 < (R.length : Int):=by omega
 have z4 : ((R.length : Int) - 1).toNat=R.length - 1:=by omega
 obtain ⟨last,hlast⟩ : ∃ x,lastR R=x:=⟨_,rfl⟩
 rw [hlast] at rc0
 have hge : decide (cl≤last)=true:=decide_eq_true (by have h:=hl;simp only [lastM,hlast,Bool.or_eq_false_iff,decide_eq_false_iff_not] at h;omega)
 have hres:=Lib.hid (monErr_last hl)
 replace hlast:=Lib.hid hlast
 clear hl hz
 go_enter Tryd.func18,Tryd.ntmps18
 have m0 : World.cell? (World.alloc w (.cells #[.slice aa A.length ac,.int .i64 nx,.slice ka K.length kc,.slice (some ⟨rb,ro,none⟩) R.length rc,.int .i64 tg,.int .i64 cl] 35)) ⟨w.heap.size,0,none⟩=some (.slice aa A.length ac):=bM.cell 0
 have m1 : World.cell? (World.alloc w (.cells #[.slice aa A.length ac,.int .i64 nx,.slice ka K.length kc,.slice (some ⟨rb,ro,none⟩) R.length rc,.int .i64 tg,.int .i64 cl] 35)) ⟨w.heap.size,1,none⟩=some (.int .i64 nx):=bM.cell 1
 have m2 : World.cell? (World.alloc w (.cells #[.slice aa A.length ac,.int .i64 nx,.slice ka K.length kc,.slice (some ⟨rb,ro,none⟩) R.length rc,.int .i64 tg,.int .i64 cl] 35)) ⟨w.heap.size,2,none⟩=some (.slice ka K.length kc):=bM.cell 2
 have m3 : World.cell? (World.alloc w (.cells #[.slice aa A.length ac,.int .i64 nx,.slice ka K.length kc,.slice (some ⟨rb,ro,none⟩) R.length rc,.int .i64 tg,.int .i64 cl] 35)) ⟨w.heap.size,3,none⟩=some (.slice (some ⟨rb,ro,none⟩) R.length rc):=bM.cell 3
 have m4 : World.cell? (World.alloc w (.cells #[.slice aa A.length ac,.int .i64 nx,.slice ka K.length kc,.slice (some ⟨rb,ro,none⟩) R.length rc,.int .i64 tg,.int .i64 cl] 35)) ⟨w.heap.size,4,none⟩=some (.int .i64 tg):=bM.cell 4
 have m5 : World.cell? (World.alloc w (.cells #[.slice aa A.length ac,.int .i64 nx,.slice ka K.length kc,.slice (some ⟨rb,ro,none⟩) R.length rc,.int .i64 tg,.int .i64 cl] 35)) ⟨w.heap.size,5,none⟩=some (.int .i64 cl):=bM.cell 5
 have mlt:=bM.lt
 go_wp2_with fail
 refine (allocs_Check hA.out hn).mono ?_
 rintro e w1 ⟨rfl,hE1⟩
 rw [q1.out]
 clear m0 m1 m2 m3 m4 m5 mlt
 replace bM:=bM.ext hE1
 have m0 : World.cell? w1 ⟨w.heap.size,0,none⟩=some (.slice aa A.length ac):=bM.cell 0
 have m1 : World.cell? w1 ⟨w.heap.size,1,none⟩=some (.int .i64 nx):=bM.cell 1
 have m2 : World.cell? w1 ⟨w.heap.size,2,none⟩=some (.slice ka K.length kc):=bM.cell 2
 have m3 : World.cell? w1 ⟨w.heap.size,3,none⟩=some (.slice (some ⟨rb,ro,none⟩) R.length rc):=bM.cell 3
 have m4 : World.cell? w1 ⟨w.heap.size,4,none⟩=some (.int .i64 tg):=bM.cell 4
 have m5 : World.cell? w1 ⟨w.heap.size,5,none⟩=some (.int .i64 cl):=bM.cell 5
 have mlt:=bM.lt
 go_wp2_with fail
 refine (mon_counted tg _).mono ?_
 rintro e w2 ⟨rfl,rfl⟩
 rw [q3.out]
 go_wp2_with fail
 refine (mon_counted cl _).mono ?_
 rintro e w3 ⟨rfl,rfl⟩
 rw [q4.out]
 go_wp2_with fail
 refine (guard_Check (hR.out.ext hE1)).mono ?_
 rintro e w4 ⟨rfl,rfl⟩
 rw [q5.out]
 replace rc0:=Ext.cell hE1 rc0
 go_wp2
 go_quiet (fail)
 go_wp2
 go_ret
 rw [hres.out]
 exact ⟨rfl,Ext.trans hE0 (Ext.trans hE1 ((Ext.refl _).drewN _))⟩
end Go.Proofs.YtoanoodfacmieaaDoor

/- Contracts: monitor.Check where a call runs. (printed by gen/mon35.py) -/
namespace Go.Proofs.YtoanoodfacmieaaDoor
set_option maxRecDepth 100000
open Go.RowKit
set_option maxRecDepth 100000 in
set_option maxHeartbeats 12800000 in
theorem mon_Check_running {A : List Alloc} {nx : Int} {K : List Stk} {R : List Int} {tg cl : Int} {sa ss sr : Value} {w : World} (hA : Als w sa A) (hn : i64B nx) (hK : Kts w ss K) (hR : Nts w sr R) (hh : headM ⟨⟨A,nx⟩,K,R,tg,cl⟩=true) (hl : lastM ⟨⟨A,nx⟩,K,R,tg,cl⟩=true) (hr : 0 < R.length) :
  Calls Tryd.prog 18 #[.agg #[sa,.int .i64 nx,ss,sr,.int .i64 tg,.int .i64 cl]] w fun e w'=>e = .returned (.int .i64 (monErr ⟨⟨A,nx⟩,K,R,tg,cl⟩))∧Ext w w':=by
 obtain ⟨aa,ac,rfl,hac,hacm,-⟩:=hA.form
 obtain ⟨ka,kc,rfl,hkc,hkcm,-⟩:=hK.form
 obtain ⟨ra,rc,rfl,hrc,hrcm,-⟩:=hR.form
 unfold maxLen at hacm hkcm hrcm
 have hE0:=(Ext.refl w).alloc (.cells #[.slice aa A.length ac,.int .i64 nx,.slice ka K.length kc,.slice ra R.length rc,.int .i64 tg,.int .i64 cl] 35)
 have bM:=Box.new w 35 #[.slice aa A.length ac,.int .i64 nx,.slice ka K.length kc,.slice ra R.length rc,.int .i64 tg,.int .i64 cl]
 replace hA:=Lib.hid (hA.ext hE0);replace hK:=Lib.hid (hK.ext hE0);replace hR:=Lib.hid (hR.ext hE0)
 obtain ⟨⟨⟨⟨h1,h2⟩,h3⟩,h4⟩,h5⟩:=headM_parts hh
 have q1:=Lib.hid (memErr_ok h1)
 have g1 : (K.length != A.length)=false:=by rw [bne,h2];rfl
 have g2 : ((K.length : Int) != (A.length : Int))=false:=by have:=eq_of_beq h2;rw [this];simp
 have h2e:=Lib.hid (eq_of_beq h2)
 have q3:=Lib.hid h3
 have q4:=Lib.hid h4
 have q5:=Lib.hid (runErr_ok h5)
 have hRl:=okR_len h5
 have w1 : IntKind.i64.wrap ((R.length : Int) - 1)=(R.length : Int) - 1:=IntWalk.i64_in _ (by omega)
 have hhead:=Lib.hid hh
 replace h2:=Lib.hid h2
 clear h1 h3 h4 h5 hh
 have hz : R.length≠0:=by omega
 obtain ⟨rb,ro,rfl,_,rc0⟩:=hR.out.cell (last_is hz)
 have z1 : decide (0 < R.length)=true:=decide_eq_true (by omega)
 have z2 : (0 : Int)≤(R.length : Int) - 1:=by omega
 have z3 : (R.length : Int) - 1 < (R.length : Int):=by omega
 have z4 : ((R.length : Int) - 1).toNat=R.length - 1:=by omega
 obtain ⟨last,hlast⟩ : ∃ x,lastR R=x:=⟨_,rfl⟩
 rw [hlast] at rc0
 have hge : decide (cl≤last)=false:=decide_eq_false (by have h:=hl;simp only [lastM,hlast,Bool.or_eq_true,decide_eq_true_eq,beq_iff_eq] at h;omega)
 replace hlast:=Lib.hid hl
 clear hl hz hr
 go_enter Tryd.func18,Tryd.ntmps18
 have m0 : World.cell? (World.alloc w (.cells #[.slice aa A.length ac,.int .i64 nx,.slice ka K.length kc,.slice (some ⟨rb,ro,none⟩) R.length rc,.int .i64 tg,.int .i64 cl] 35)) ⟨w.heap.size,0,none⟩=some (.slice aa A.length ac):=bM.cell 0
 have m1 : World.cell? (World.alloc w (.cells #[.slice aa A.length ac,.int .i64 nx,.slice ka K.length kc,.slice (some ⟨rb,ro,none⟩) R.length rc,.int .i64 tg,.int .i64 cl] 35)) ⟨w.heap.size,1,none⟩=some (.int .i64 nx):=bM.cell 1
 have m2 : World.cell? (World.alloc w (.cells #[.slice aa A.length ac,.int .i64 nx,.slice ka K.length kc,.slice (some ⟨rb,ro,none⟩) R.length rc,.int .i64 tg,.int .i64 cl] 35)) ⟨w.heap.size,2,none⟩=some (.slice ka K.length kc):=bM.cell 2
 have m3 : World.cell? (World.alloc w (.cells #[.slice aa A.length ac,.int .i64 nx,.slice ka K.length kc,.slice (some ⟨rb,ro,none⟩) R.length rc,.int .i64 tg,.int .i64 cl] 35)) ⟨w.heap.size,3,none⟩=some (.slice (some ⟨rb,ro,none⟩) R.length rc):=bM.cell 3
 have m4 : World.cell? (World.alloc w (.cells #[.slice aa A.length ac,.int .i64 nx,.slice ka K.length kc,.slice (some ⟨rb,ro,none⟩) R.length rc,.int .i64 tg,.int .i64 cl] 35)) ⟨w.heap.size,4,none⟩=some (.int .i64 tg):=bM.cell 4
 have m5 : World.cell? (World.alloc w (.cells #[.slice aa A.length ac,.int .i64 nx,.slice ka K.length kc,.slice (some ⟨rb,ro,none⟩) R.length rc,.int .i64 tg,.int .i64 cl] 35)) ⟨w.heap.size,5,none⟩=some (.int .i64 cl):=bM.cell 5
 have mlt:=bM.lt
 go_wp2_with fail
 refine (allocs_Check hA.out hn).mono ?_
 rintro e w1 ⟨rfl,hE1⟩
 rw [q1.out]
 clear m0 m1 m2 m3 m4 m5 mlt
 replace bM:=bM.ext hE1
 have m0 : World.cell? w1 ⟨w.heap.size,0,none⟩=some (.slice aa A.length ac):=bM.cell 0
 have m1 : World.cell? w1 ⟨w.heap.size,1,none⟩=some (.int .i64 nx):=bM.cell 1
 have m2 : World.cell? w1 ⟨w.heap.size,2,none⟩=some (.slice ka K.length kc):=bM.cell 2
 have m3 : World.cell? w1 ⟨w.heap.size,3,none⟩=some (.slice (some ⟨rb,ro,none⟩) R.length rc):=bM.cell 3
 have m4 : World.cell? w1 ⟨w.heap.size,4,none⟩=some (.int .i64 tg):=bM.cell 4
 have m5 : World.cell? w1 ⟨w.heap.size,5,none⟩=some (.int .i64 cl):=bM.cell 5
 have mlt:=bM.lt
 go_wp2_with fail
 refine (mon_counted tg _).mono ?_
 rintro e w2 ⟨rfl,rfl⟩
 rw [q3.out]
 go_wp2_with fail
 refine (mon_counted cl _).mono ?_
 rintro e w3 ⟨rfl,rfl⟩
 rw [q4.out]
 go_wp2_with fail
 refine (guard_Check (hR.out.ext hE1)).mono ?_
 rintro e w4 ⟨rfl,rfl⟩
 rw [q5.out]
 replace rc0:=Ext.cell hE1 rc0
 clear m0 m1 m2 m3 m4 m5 mlt
 have m0 : World.cell? w1 ⟨w.heap.size,0,none⟩=some (.slice aa A.length ac):=bM.cell 0
 have m1 : World.cell? w1 ⟨w.heap.size,1,none⟩=some (.int .i64 nx):=bM.cell 1
 have m2 : World.cell? w1 ⟨w.heap.size,2,none⟩=some (.slice ka K.length kc):=bM.cell 2
 have m3 : World.cell? w1 ⟨w.heap.size,3,none⟩=some (.slice (some ⟨rb,ro,none⟩) R.length rc):=bM.cell 3
 have m4 : World.cell? w1 ⟨w.heap.size,4,none⟩=some (.int .i64 tg):=bM.cell 4
 have m5 : World.cell? w1 ⟨w.heap.size,5,none⟩=some (.int .i64 cl):=bM.cell 5
 have mlt:=bM.lt
 go_wp2
 go_quiet (fail)
 clear m0 m1 m2 m3 m4 m5 mlt
 obtain ⟨wd,hwd⟩ : ∃ z,World.drewN w1 nq=z:=⟨_,rfl⟩
 have hED : Ext w1 wd:=by rw [← hwd];exact (Ext.refl _).drewN _
 rw [hwd]
 clear hwd
 replace hE1:=Ext.trans hE1 hED
 replace bM:=bM.ext hED
 replace hA:=Lib.hid (hA.out.ext hE1);replace hK:=Lib.hid (hK.out.ext hE1);replace hR:=Lib.hid hR
 have m0 : World.cell? wd ⟨w.heap.size,0,none⟩=some (.slice aa A.length ac):=bM.cell 0
 have m1 : World.cell? wd ⟨w.heap.size,1,none⟩=some (.int .i64 nx):=bM.cell 1
 have m2 : World.cell? wd ⟨w.heap.size,2,none⟩=some (.slice ka K.length kc):=bM.cell 2
 have m3 : World.cell? wd ⟨w.heap.size,3,none⟩=some (.slice (some ⟨rb,ro,none⟩) R.length rc):=bM.cell 3
 have m4 : World.cell? wd ⟨w.heap.size,4,none⟩=some (.int .i64 tg):=bM.cell 4
 have m5 : World.cell? wd ⟨w.heap.size,5,none⟩=some (.int .i64 cl):=bM.cell 5
 have mlt:=bM.lt
 go_wp2
 clear m0 m1 m2 m3 m4 m5 mlt
 go_loopw [61] (fun iv wr => ∃ i : Nat,i≤A.length∧iv = .int .i64 i∧(∀ j,j < i→rowAtM ⟨⟨A,nx⟩,K,R,tg,cl⟩ j=true)∧Ext wd wr) (fun iv _=>A.length - (intOf iv).toNat)
 case atStart=>exact ⟨0,Nat.zero_le _,rfl,fun j hj=>by omega,Ext.refl _⟩
 case round =>
  obtain ⟨i,hi,rfl,hrows,hX⟩:=hrel
  by_cases hlt : i < A.length
  ·have hlt' : decide (i < A.length)=true:=decide_eq_true hlt
   obtain ⟨al,hal⟩ : ∃ x,A[i]? = some x:=⟨A[i],by simp [hlt]⟩
   obtain ⟨st,hst⟩ : ∃ x,K[i]? = some x:=⟨K[i]'(by rw [h2e.out];exact hlt),by simp⟩
   obtain ⟨b,off,s,rfl,hbb,a0,a1,a2,hcl⟩:=(hA.out.ext hX).cell hal
   obtain ⟨kb,ko,ks,rfl,hkb,k0,k1,hks⟩:=(hK.out.ext hX).cell hst
   obtain ⟨ca,cc,rfl,-⟩:=Cls.form hcl
   obtain ⟨sa,sc,rfl,hsc,hscm,-⟩:=hks.form
   obtain ⟨anum,alive,acells⟩:=al
   obtain ⟨snum,scells⟩:=st
   dsimp only at *
   have hrow : rowAtM ⟨⟨A,nx⟩,K,R,tg,cl⟩ i=rowM tg cl ⟨snum,scells⟩ ⟨anum,alive,acells⟩:=by simp only [rowAtM,hst,hal]
   have hi0 : (0 : Int)≤(i : Int):=by omega
   have hi1 : (i : Int) < (A.length : Int):=by omega
   have hi2 : (i : Int) < (K.length : Int):=by rw [h2e.out];exact hi1
   have hres : rowM tg cl ⟨snum,scells⟩ ⟨anum,alive,acells⟩=false→monErr ⟨⟨A,nx⟩,K,R,tg,cl⟩=8:=fun h=>monErr_row hlt (hrow.trans h)
   replace hres:=Lib.hid hres
   replace hrow:=Lib.hid hrow
   replace hrows:=Lib.hid hrows
   replace hal:=Lib.hid hal;replace hst:=Lib.hid hst
   obtain ⟨wo,hwo⟩ : ∃ z,wr=z:=⟨_,rfl⟩
   rw [hwo] at hX a0 a1 a2 k0 k1 hks hcl hbb hkb ⊢
   clear hwo
   have bMo:=bM.ext hX
   have hE01:=Ext.trans hE0 hE1
   clear hcl hlt
   cases h1 : snum == anum
   ·have g1 : (snum != anum)=true:=by rw [bne,h1];rfl
    replace h1:=Lib.hid h1
    obtain ⟨bMo_0,bMo_1,bMo_2,bMo_3,bMo_4,bMo_5,bMo_l⟩:=bMo.c6
    have a0_l:=World.block_lt_of_cell? _ _ a0
    have a1_l:=World.block_lt_of_cell? _ _ a1
    have a2_l:=World.block_lt_of_cell? _ _ a2
    have k0_l:=World.block_lt_of_cell? _ _ k0
    have k1_l:=World.block_lt_of_cell? _ _ k1
    go_wp2
    go_ret
    rw [hres.out (by simp only [rowM,h1.out,Bool.false_and])]
    exact ⟨rfl,Ext.trans hE01 (Ext.trans hX (by repeat (first | exact Ext.refl _ | apply Ext.alloc | apply Ext.drew)))⟩
   have g1 : (snum != anum)=false:=by rw [bne,h1];rfl
   replace h1:=Lib.hid h1
   cases h2 : scells.length == acells.length
   ·have g2 : (scells.length != acells.length)=true:=by rw [bne,h2];rfl
    have g3 : ((scells.length : Int) != (acells.length : Int))=true:=by simp only [bne_iff_ne,ne_eq,Int.natCast_inj];simpa using h2
    replace h2:=Lib.hid h2
    obtain ⟨bMo_0,bMo_1,bMo_2,bMo_3,bMo_4,bMo_5,bMo_l⟩:=bMo.c6
    have a0_l:=World.block_lt_of_cell? _ _ a0
    have a1_l:=World.block_lt_of_cell? _ _ a1
    have a2_l:=World.block_lt_of_cell? _ _ a2
    have k0_l:=World.block_lt_of_cell? _ _ k0
    have k1_l:=World.block_lt_of_cell? _ _ k1
    go_wp2
    go_ret
    rw [hres.out (by simp only [rowM,h2.out,Bool.false_and,Bool.and_false])]
    exact ⟨rfl,Ext.trans hE01 (Ext.trans hX (by repeat (first | exact Ext.refl _ | apply Ext.alloc | apply Ext.drew)))⟩
   have g2 : (scells.length != acells.length)=false:=by rw [bne,h2];rfl
   have g3 : ((scells.length : Int) != (acells.length : Int))=false:=by have:=eq_of_beq h2;rw [this];simp
   replace h2:=Lib.hid h2
   replace hks:=Lib.hid hks
   cases h3 : okK ⟨snum,scells⟩
   ·have hs3 : Hid (stkErr ⟨snum,scells⟩=8):=Hid.mk (by simp [stkErr,h3])
    replace h3:=Lib.hid h3
    obtain ⟨bMo_0,bMo_1,bMo_2,bMo_3,bMo_4,bMo_5,bMo_l⟩:=bMo.c6
    have a0_l:=World.block_lt_of_cell? _ _ a0
    have a1_l:=World.block_lt_of_cell? _ _ a1
    have a2_l:=World.block_lt_of_cell? _ _ a2
    have k0_l:=World.block_lt_of_cell? _ _ k0
    have k1_l:=World.block_lt_of_cell? _ _ k1
    go_wp2_with fail
    try clear a0_l
    try clear a1_l
    try clear a2_l
    try clear k0_l
    try clear k1_l
    clear bMo_0 bMo_1 bMo_2 bMo_3 bMo_4 bMo_5 bMo_l
    have bA:=Box.new wo 101 #[.int .i64 anum,.bool alive,.slice ca acells.length cc]
    have hsz : Hid ((World.alloc wo (.cells #[.int .i64 anum,.bool alive,.slice ca acells.length cc] 101)).heap.size=wo.heap.size+1):=Hid.mk (by simp)
    have hx20 : Ext wo (World.alloc wo (.cells #[.int .i64 anum,.bool alive,.slice ca acells.length cc] 101)):=(Ext.refl _).alloc _
    obtain ⟨w20b,hw20⟩ : ∃ x,World.alloc wo (.cells #[.int .i64 anum,.bool alive,.slice ca acells.length cc] 101)=x:=⟨_,rfl⟩
    rw [hw20] at hsz bA hx20 ⊢
    clear hw20
    replace bMo:=bMo.ext hx20
    replace a0:=Ext.cell hx20 a0
    replace a1:=Ext.cell hx20 a1
    replace a2:=Ext.cell hx20 a2
    replace k0:=Ext.cell hx20 k0
    replace k1:=Ext.cell hx20 k1
    have hF20:=Ext.trans (hX) hx20
    have hszp:=hsz
    have bX:=Box.new w20b 44 #[.int .i64 snum,.slice sa scells.length sc]
    have hsz : Hid ((World.alloc w20b (.cells #[.int .i64 snum,.slice sa scells.length sc] 44)).heap.size=w20b.heap.size+1):=Hid.mk (by simp)
    have hx21 : Ext w20b (World.alloc w20b (.cells #[.int .i64 snum,.slice sa scells.length sc] 44)):=(Ext.refl _).alloc _
    obtain ⟨w21b,hw21⟩ : ∃ x,World.alloc w20b (.cells #[.int .i64 snum,.slice sa scells.length sc] 44)=x:=⟨_,rfl⟩
    rw [hw21] at hsz bX hx21 ⊢
    clear hw21
    replace bMo:=bMo.ext hx21
    replace bA:=bA.ext hx21
    replace a0:=Ext.cell hx21 a0
    replace a1:=Ext.cell hx21 a1
    replace a2:=Ext.cell hx21 a2
    replace k0:=Ext.cell hx21 k0
    replace k1:=Ext.cell hx21 k1
    have hF21:=Ext.trans (hF20) hx21
    rw [hszp.out] at bX hsz
    clear hszp
    refine (stacks_Check (hks.out.ext (by repeat (first | exact Ext.refl _ | assumption | apply Ext.alloc | apply Ext.drew | exact Ext.trans hx20 hx21)))).mono ?_
    rintro e w23 ⟨rfl,hZ22⟩
    have hE22 : Ext w21b w23:=Ext.trans (by repeat (first | exact Ext.refl _ | apply Ext.alloc | apply Ext.drew)) hZ22
    replace bMo:=bMo.ext hE22
    replace bA:=bA.ext hE22
    replace bX:=bX.ext hE22
    replace a0:=Ext.cell hE22 a0
    replace a1:=Ext.cell hE22 a1
    replace a2:=Ext.cell hE22 a2
    replace k0:=Ext.cell hE22 k0
    replace k1:=Ext.cell hE22 k1
    have hF22:=Ext.trans (hF21) hE22
    rw [hs3.out]
    go_wp2
    go_ret
    rw [hres.out (by simp only [rowM,h3.out,Bool.false_and,Bool.and_false])]
    exact ⟨rfl,Ext.trans hE01 hF22⟩
   have hs3 : Hid (stkErr ⟨snum,scells⟩=0):=Hid.mk (by simp [stkErr,h3])
   have hc2 : scells.length≤2 ∧ ∀ s ∈ scells,s.length≤600:=okK_bounds h3
   replace h3:=Lib.hid h3
   replace hc2:=Lib.hid hc2
   obtain ⟨bMo_0,bMo_1,bMo_2,bMo_3,bMo_4,bMo_5,bMo_l⟩:=bMo.c6
   have a0_l:=World.block_lt_of_cell? _ _ a0
   have a1_l:=World.block_lt_of_cell? _ _ a1
   have a2_l:=World.block_lt_of_cell? _ _ a2
   have k0_l:=World.block_lt_of_cell? _ _ k0
   have k1_l:=World.block_lt_of_cell? _ _ k1
   go_wp2_with fail
   try clear a0_l
   try clear a1_l
   try clear a2_l
   try clear k0_l
   try clear k1_l
   clear bMo_0 bMo_1 bMo_2 bMo_3 bMo_4 bMo_5 bMo_l
   have bA:=Box.new wo 101 #[.int .i64 anum,.bool alive,.slice ca acells.length cc]
   have hsz : Hid ((World.alloc wo (.cells #[.int .i64 anum,.bool alive,.slice ca acells.length cc] 101)).heap.size=wo.heap.size+1):=Hid.mk (by simp)
   have hx20 : Ext wo (World.alloc wo (.cells #[.int .i64 anum,.bool alive,.slice ca acells.length cc] 101)):=(Ext.refl _).alloc _
   obtain ⟨w20b,hw20⟩ : ∃ x,World.alloc wo (.cells #[.int .i64 anum,.bool alive,.slice ca acells.length cc] 101)=x:=⟨_,rfl⟩
   rw [hw20] at hsz bA hx20 ⊢
   clear hw20
   replace bMo:=bMo.ext hx20
   replace a0:=Ext.cell hx20 a0
   replace a1:=Ext.cell hx20 a1
   replace a2:=Ext.cell hx20 a2
   replace k0:=Ext.cell hx20 k0
   replace k1:=Ext.cell hx20 k1
   have hF20:=Ext.trans (hX) hx20
   have hszp:=hsz
   have bX:=Box.new w20b 44 #[.int .i64 snum,.slice sa scells.length sc]
   have hsz : Hid ((World.alloc w20b (.cells #[.int .i64 snum,.slice sa scells.length sc] 44)).heap.size=w20b.heap.size+1):=Hid.mk (by simp)
   have hx21 : Ext w20b (World.alloc w20b (.cells #[.int .i64 snum,.slice sa scells.length sc] 44)):=(Ext.refl _).alloc _
   obtain ⟨w21b,hw21⟩ : ∃ x,World.alloc w20b (.cells #[.int .i64 snum,.slice sa scells.length sc] 44)=x:=⟨_,rfl⟩
   rw [hw21] at hsz bX hx21 ⊢
   clear hw21
   replace bMo:=bMo.ext hx21
   replace bA:=bA.ext hx21
   replace a0:=Ext.cell hx21 a0
   replace a1:=Ext.cell hx21 a1
   replace a2:=Ext.cell hx21 a2
   replace k0:=Ext.cell hx21 k0
   replace k1:=Ext.cell hx21 k1
   have hF21:=Ext.trans (hF20) hx21
   rw [hszp.out] at bX hsz
   clear hszp
   refine (stacks_Check (hks.out.ext (by repeat (first | exact Ext.refl _ | assumption | apply Ext.alloc | apply Ext.drew | exact Ext.trans hx20 hx21)))).mono ?_
   rintro e w23 ⟨rfl,hZ22⟩
   have hE22 : Ext w21b w23:=Ext.trans (by repeat (first | exact Ext.refl _ | apply Ext.alloc | apply Ext.drew)) hZ22
   replace bMo:=bMo.ext hE22
   replace bA:=bA.ext hE22
   replace bX:=bX.ext hE22
   replace a0:=Ext.cell hE22 a0
   replace a1:=Ext.cell hE22 a1
   replace a2:=Ext.cell hE22 a2
   replace k0:=Ext.cell hE22 k0
   replace k1:=Ext.cell hE22 k1
   have hF22:=Ext.trans (hF21) hE22
   rw [hs3.out]
   replace hks:=Lib.hid (hks.out.ext (Ext.trans hx20 (Ext.trans hx21 hE22)))
   clear a0 a1 a2 k0 k1
   obtain ⟨bMo_0,bMo_1,bMo_2,bMo_3,bMo_4,bMo_5,bMo_l⟩:=bMo.c6
   obtain ⟨bA_0,bA_1,bA_2,bA_l⟩:=bA.c3
   obtain ⟨bX_0,bX_1,bX_l⟩:=bX.c2
   go_wp2_with fail
   clear bMo_0 bMo_1 bMo_2 bMo_3 bMo_4 bMo_5 bMo_l
   clear bA_0 bA_1 bA_2 bA_l
   clear bX_0 bX_1 bX_l
   refine (concat_Items hks.out hc2.out.1 hc2.out.2).mono ?_
   rintro e w24 ⟨u,rfl,hU,hZ23⟩
   have hE23 : Ext w23 w24:=Ext.trans (by repeat (first | exact Ext.refl _ | apply Ext.alloc | apply Ext.drew)) hZ23
   replace bMo:=bMo.ext hE23
   replace bA:=bA.ext hE23
   replace bX:=bX.ext hE23
   have hF23:=Ext.trans (hF22) hE23
   have hU : Its w24 u scells.flatten:=hU.its
   obtain ⟨FL,hFL⟩ : ∃ z,scells.flatten=z:=⟨_,rfl⟩
   rw [hFL] at hU
   replace hFL:=Lib.hid hFL
   obtain ⟨ua,uc,rfl,hul,hum,-⟩:=hU.form
   unfold maxLen at hum
   obtain ⟨bMo_0,bMo_1,bMo_2,bMo_3,bMo_4,bMo_5,bMo_l⟩:=bMo.c6
   obtain ⟨bA_0,bA_1,bA_2,bA_l⟩:=bA.c3
   obtain ⟨bX_0,bX_1,bX_l⟩:=bX.c2
   go_wp2
   clear bMo_0 bMo_1 bMo_2 bMo_3 bMo_4 bMo_5 bMo_l
   clear bA_0 bA_1 bA_2 bA_l
   clear bX_0 bX_1 bX_l
   obtain ⟨wz,hwz⟩ : ∃ z,w24=z:=⟨_,rfl⟩
   rw [hwz] at hU bMo bA bX hF23 ⊢
   clear hwz
   go_loopw [94] (fun jv wr => ∃ j : Nat,j≤FL.length∧jv = .int .i64 j∧(FL.take j).all (fun it=>alive && itM tg cl it)=true∧Ext wz wr) (fun jv _=>FL.length - (intOf jv).toNat)
   case atStart=>exact ⟨0,Nat.zero_le _,rfl,rfl,Ext.refl _⟩
   case round =>
    obtain ⟨j,hj,rfl,hgood,hY⟩:=hrel
    by_cases hjl : j < FL.length
    ·have hjl' : decide (j < FL.length)=true:=decide_eq_true hjl
     obtain ⟨it,hit⟩ : ∃ x,FL[j]? = some x:=⟨FL[j],by simp [hjl]⟩
     obtain ⟨ub,uo,rfl,hub,d0,d1,d2⟩:=(hU.ext hY).cell hit
     obtain ⟨ip,itg,icl⟩:=it
     dsimp only at d0 d1 d2
     have hj0 : (0 : Int)≤(j : Int):=by omega
     have hj1 : (j : Int) < (FL.length : Int):=by omega
     have hrb : (alive && itM tg cl ⟨ip,itg,icl⟩)=false→rowM tg cl ⟨snum,scells⟩ ⟨anum,alive,acells⟩=false:=fun h=>by
      have hm : (⟨ip,itg,icl⟩ : Item) ∈ scells.flatten:=by rw [hFL.out];exact List.mem_of_getElem? hit
      have : scells.flatten.all (fun it=>alive && itM tg cl it)=false:=by
       rw [Bool.eq_false_iff]
       intro hc
       have:=List.all_eq_true.1 hc _ hm
       rw [h] at this
       cases this
      simp only [rowM,this,Bool.and_false]
     have hnext : (alive && itM tg cl ⟨ip,itg,icl⟩)=true→(FL.take (j+1)).all (fun it=>alive && itM tg cl it)=true:=fun h=>by
      rw [List.take_add_one,hit,List.all_append,hgood]
      simpa using h
     replace hrb:=Lib.hid hrb;replace hnext:=Lib.hid hnext;replace hit:=Lib.hid hit;replace hgood:=Lib.hid hgood
     replace bMo:=bMo.ext hY;replace bA:=bA.ext hY;replace bX:=bX.ext hY
     have hG:=Ext.trans hF23 hY
     clear hjl
     cases alive
     ·skip
      obtain ⟨bMo_0,bMo_1,bMo_2,bMo_3,bMo_4,bMo_5,bMo_l⟩:=bMo.c6
      obtain ⟨bA_0,bA_1,bA_2,bA_l⟩:=bA.c3
      obtain ⟨bX_0,bX_1,bX_l⟩:=bX.c2
      have d0_l:=World.block_lt_of_cell? _ _ d0
      have d1_l:=World.block_lt_of_cell? _ _ d1
      have d2_l:=World.block_lt_of_cell? _ _ d2
      go_wp2
      go_ret
      rw [hres.out (hrb.out (rfl))]
      exact ⟨rfl,Ext.trans hE01 (Ext.trans hG (by repeat (first | exact Ext.refl _ | apply Ext.alloc | apply Ext.drew)))⟩
     cases t1 : decide (itg < tg)
     ·have u1 : decide (tg≤itg)=true:=decide_eq_true (by have:=of_decide_eq_false t1;omega)
      replace t1:=Lib.hid t1
      obtain ⟨bMo_0,bMo_1,bMo_2,bMo_3,bMo_4,bMo_5,bMo_l⟩:=bMo.c6
      obtain ⟨bA_0,bA_1,bA_2,bA_l⟩:=bA.c3
      obtain ⟨bX_0,bX_1,bX_l⟩:=bX.c2
      have d0_l:=World.block_lt_of_cell? _ _ d0
      have d1_l:=World.block_lt_of_cell? _ _ d1
      have d2_l:=World.block_lt_of_cell? _ _ d2
      go_wp2
      go_ret
      rw [hres.out (hrb.out (by simp only [itM,t1.out,Bool.false_and,Bool.and_false]))]
      exact ⟨rfl,Ext.trans hE01 (Ext.trans hG (by repeat (first | exact Ext.refl _ | apply Ext.alloc | apply Ext.drew)))⟩
     have u1 : decide (tg≤itg)=false:=decide_eq_false (by have:=of_decide_eq_true t1;omega)
     replace t1:=Lib.hid t1
     cases t2 : decide (icl < cl)
     ·have u2 : decide (cl≤icl)=true:=decide_eq_true (by have:=of_decide_eq_false t2;omega)
      replace t2:=Lib.hid t2
      obtain ⟨bMo_0,bMo_1,bMo_2,bMo_3,bMo_4,bMo_5,bMo_l⟩:=bMo.c6
      obtain ⟨bA_0,bA_1,bA_2,bA_l⟩:=bA.c3
      obtain ⟨bX_0,bX_1,bX_l⟩:=bX.c2
      have d0_l:=World.block_lt_of_cell? _ _ d0
      have d1_l:=World.block_lt_of_cell? _ _ d1
      have d2_l:=World.block_lt_of_cell? _ _ d2
      go_wp2
      go_ret
      rw [hres.out (hrb.out (by simp only [itM,t2.out,Bool.and_false]))]
      exact ⟨rfl,Ext.trans hE01 (Ext.trans hG (by repeat (first | exact Ext.refl _ | apply Ext.alloc | apply Ext.drew)))⟩
     have u2 : decide (cl≤icl)=false:=decide_eq_false (by have:=of_decide_eq_true t2;omega)
     replace t2:=Lib.hid t2
     obtain ⟨bMo_0,bMo_1,bMo_2,bMo_3,bMo_4,bMo_5,bMo_l⟩:=bMo.c6
     obtain ⟨bA_0,bA_1,bA_2,bA_l⟩:=bA.c3
     obtain ⟨bX_0,bX_1,bX_l⟩:=bX.c2
     have d0_l:=World.block_lt_of_cell? _ _ d0
     have d1_l:=World.block_lt_of_cell? _ _ d1
     have d2_l:=World.block_lt_of_cell? _ _ d2
     go_wp2
     go_roundw
     case rel=>exact ⟨j+1,by omega,by go_num,hnext.out (by simp only [itM,t1.out,t2.out,Bool.and_self]),Ext.trans hY (by repeat (first | exact Ext.refl _ | apply Ext.alloc | apply Ext.drew))⟩
     case measure=>simp [intOf];omega
    ·have hje : j=FL.length:=by omega
     subst hje
     have hjl' : decide (FL.length < FL.length)=false:=decide_eq_false (by omega)
     rw [List.take_length] at hgood
     have hrowok : rowAtM ⟨⟨A,nx⟩,K,R,tg,cl⟩ i=true:=by rw [hrow.out];simp only [rowM,h1.out,h2.out,h3.out,hFL.out,hgood,Bool.and_self]
     have hnew : ∀ j,j < i+1→rowAtM ⟨⟨A,nx⟩,K,R,tg,cl⟩ j=true:=fun j hj=>by
      by_cases e : j=i
      ·rw [e];exact hrowok
      ·exact hrows.out j (by omega)
     replace hnew:=Lib.hid hnew;replace hrowok:=Lib.hid hrowok;replace hgood:=Lib.hid hgood
     clear hjl hj
     go_wp2
     go_roundw
     case rel=>exact ⟨i+1,by omega,by go_num,hnew.out,Ext.trans hF23 hY⟩
     case measure=>simp [intOf];omega
  ·have hie : i=A.length:=by omega
   subst hie
   have hlt' : decide (A.length < A.length)=false:=decide_eq_false (by omega)
   have hres:=Lib.hid (monErr_ok hhead.out hlast.out hrows)
   clear hlt hi hrows
   go_wp2
   go_ret
   rw [hres.out]
   exact ⟨rfl,Ext.trans hE0 (Ext.trans hE1 hX)⟩
end Go.Proofs.YtoanoodfacmieaaDoor
