/- Several texts in one: RegSt, RegBx. -/
import Derived.Test.YtnplphcnagooeaaGreatDoorQ15
import Derived.Test.YtnplphcnagooeaaGreatDoorQ08
/- A region that draws its order, by what each operation leaves, under a relation of one's own between states: what the operations that have come up left, and the world. -/
namespace Go.Proofs.YtnplphcnagooeaaGreatDoor
set_option maxRecDepth 100000
open Go
abbrev St:=(Nat→Option Value) × World
def upd (β : Nat→Option Value) (i : Nat) (v : Value) : Nat→Option Value:=fun j=>if j=i then some v else β j
def none' : Nat→Option Value:=fun _=>none
section
variable {P : Program} {ops : Array Oper} {Q : Exit→Act→World→Prop} {md : Region.Mode} {R : St→St→Prop}
structure PrS (R : St→St→Prop) where
 p : Value→St→Prop
 m : ∀ v s s',p v s→R s s'→p v s'
def PrS.eq (R : St→St→Prop) (u : Value) : PrS R:=⟨fun v _=>v=u,fun _ _ _ h _=>h⟩
def PrS.any (R : St→St→Prop) : PrS R:=⟨fun _ _=>True,fun _ _ _ h _=>h⟩
def prS (L : List (PrS R)) (i : Nat) (v : Value) (s : St) : Prop:=match L[i]? with
 | some q=>q.p v s
 | none=>True
theorem prS_ext {L : List (PrS R)} {i : Nat} {v : Value} {s s' : St} (h : prS L i v s) (he : R s s') : prS L i v s':=by
 unfold prS at *
 cases hq : L[i]? with
 | none=>trivial
 | some q=>rw [hq] at h;exact q.m _ _ _ h he
def stOf (ops : Array Oper) (listed : Array Bool) (a : Act) (w : World) : St:=(fun i=>if listed.getD i false=true then some (slotV ops a i) else none,w)
def RSt (ops : Array Oper) (R : St→St→Prop) (L : List (PrS R)) (a0 : Act) (w0 : World) (listed : Array Bool) (a : Act) (w : World) : Prop :=
 listed.size=ops.size∧a.defers=a0.defers∧a.tmps.size=a0.tmps.size∧(∀ t,(∀ o ∈ ops.toList,o.dst≠some t)→a.tmps[t]? = a0.tmps[t]?)∧(∀ i,listed.getD i false=true→prS L i (slotV ops a i) (stOf ops listed a w))∧R (none',w0) (stOf ops listed a w)∧(∀ (i : Nat) (o : Oper),ops[i]? = some o→listed.getD i false=true → ∀ e ∈ o.after,Region.binds .any e=true→listed.getD e.on false=true)
def StepS (P : Program) (md : Region.Mode) (ops : Array Oper) (Q : Exit→Act→World→Prop) (R : St→St→Prop) (L : List (PrS R)) (a0 : Act) (w0 : World) (i : Nat) (o : Oper) : Prop :=
 ∀ (β : Nat→Option Value) (a : Act) (w : World),β i=none→R (none',w0) (β,w)→(∀ j,(o.after.any fun e=>Region.binds md e && e.on == j)=true→prS L j (slotV ops a j) (β,w)∧β j=some (slotV ops a j)) →
  (∀ t,ops.toList.all (fun o=>o.dst != some t)=true→a.eval (.tmp t)=a0.eval (.tmp t)) →
  (Region.wanted o (yielded ops a.tmps)=true ∧ ∀ K : Act→World→Prop,(∀ v w',prS L i (pv o a v) (upd β i (pv o a v),w')→R (β,w) (upd β i (pv o a v),w')→K (a.put o.dst v) w')→o.wp P a w K Q)∨(Region.wanted o (yielded ops a.tmps)=false∧prS L i (pv o a undef) (upd β i (pv o a undef),w)∧R (β,w) (upd β i (pv o a undef),w))
theorem wp_region_st {id : Nat} {a0 : Act} {w0 : World} (hr : ∀ s,R s s) (ht : ∀ a b c,R a b→R b c→R a c) (L : List (PrS R)) (hm : P.follows .mixedOrders=true) (hok : regOR .any ops a0.tmps.size=true)
  (hs : AllSteps (StepS P .any ops Q R L a0 w0.drew) ops.toList 0)
  (he : ∀ (vals : Nat→Value) (β : Nat→Option Value) (A : Act) (w : World),A=putAll vals ops.toList 0 a0→R (none',w0.drew) (β,w)→(∀ i,i < ops.size→prS L i (vals i) (β,w))→(∀ i,vals i=slotV ops A i)→(∀ i,i < ops.size→β i=some (vals i))→Q .normal A w) :
  (Code.region id ops true).wp P Q a0 w0:=by
 unfold regOR at hok
 simp only [Bool.and_eq_true,decide_eq_true_eq] at hok
 obtain ⟨⟨⟨h1,h2⟩,h3⟩,h4⟩:=hok
 have hdst : ∀ (i : Nat) (o : Oper) (d : Nat),ops[i]? = some o→o.dst=some d→d < a0.tmps.size:=by
  intro i o d ho hd
  have hm' : o ∈ ops.toList:=by rw [Array.mem_toList_iff];exact Array.mem_of_getElem? ho
  have:=List.all_eq_true.1 h1 o hm'
  rw [hd] at this
  simpa using this
 have hafter : ∀ (i : Nat) (o : Oper),ops[i]? = some o → ∀ e ∈ o.after,Region.binds .any e=true→e.on < i:=by
  intro i o ho e hea hb
  have hi:=(Array.getElem?_eq_some_iff.1 ho).1
  have:=List.all_eq_true.1 h3 i (List.mem_range.2 hi)
  rw [ho] at this
  simp only [Option.map_some,Option.getD_some,Array.all_eq_true_iff_forall_mem] at this
  have:=this e hea
  simpa [hb] using this
 have hinj : ∀ (i j : Nat) (o u : Oper) (d : Nat),ops[i]? = some o→ops[j]? = some u→o.dst=some d→u.dst=some d→i=j:=fun i j o u d hi hj ho hu =>
  fm_inj ops.toList h2 i j o u d (by rw [Array.getElem?_toList];exact hi) (by rw [Array.getElem?_toList];exact hj) ho hu
 refine wp_region_any hm (wpAny_inv (I:=RSt ops R L a0 w0.drew) ?_ ?_ _ _ _ _ (by unfold unl;refine Nat.le_trans (List.length_filter_le _ _) (by simp)) ?_)
 ·intro listed a w i ⟨r1,r2,r3,r4,r5,r6,r7⟩ hi
  obtain ⟨g1,o,ho,g2⟩:=mem_ready.1 hi
  have hst:=AllSteps.get (i:=i) hs (by rw [Array.getElem?_toList];exact ho)
  rw [Nat.zero_add] at hst
  have hisz : i < listed.size:=by rw [r1];exact (Array.getElem?_eq_some_iff.1 ho).1
  have gF : listed.getD i false=false:=by simp [hisz] at g1 ⊢;exact g1
  have hsame : ∀ v j,j≠i→listed.getD j false=true→slotV ops (a.put o.dst v) j=slotV ops a j:=by
   intro v j e hj
   unfold slotV
   cases hu : ops[j]? with
   | none=>rfl
   | some u =>
    cases hd' : u.dst with
    | none =>
     simp only [hd']
     unfold addrV
     split
     ·rename_i t x hop
      have hne : o.dst≠some t:=by
       intro ho2
       have hmu : u ∈ ops.toList:=by rw [Array.mem_toList_iff];exact Array.mem_of_getElem? hu
       have h6:=List.all_eq_true.1 h4 u hmu
       rw [hop] at h6
       have h7:=List.all_eq_true.1 h6 i (List.mem_range.2 (Array.getElem?_eq_some_iff.1 ho).1)
       rw [ho] at h7
       simp only [Option.map_some,Option.getD_some,Bool.or_eq_true,bne_iff_ne,ne_eq,ho2,not_true_eq_false,false_or] at h7
       obtain ⟨e3,he3,he4⟩:=Array.any_eq_true'.1 h7
       simp only [Bool.and_eq_true,beq_iff_eq] at he4
       have h8:=r7 j u hu hj e3 he3 he4.1
       rw [he4.2,gF] at h8
       cases h8
      show (a.put o.dst v).eval (.tmp t)=a.eval (.tmp t)
      rw [eval_tmp,eval_tmp,put_ne _ _ hne]
     ·rfl
    | some d' =>
     simp only [hd']
     show (a.put o.dst v).eval (.tmp d')=a.eval (.tmp d')
     rw [eval_tmp,eval_tmp,put_ne _ _ (fun e'=>e (hinj j i u o d' hu ho hd' e'))]
  have hself : ∀ v,slotV ops (a.put o.dst v) i=pv o a v:=by
   intro v
   unfold slotV pv
   rw [ho]
   cases hd : o.dst with
   | none=>simp only [hd];rfl
   | some d =>
    simp only [hd]
    show (a.put (some d) v).eval (.tmp d)=v
    rw [eval_tmp,put_eq _ _ (by rw [r3];exact hdst i o d ho hd)]
    rfl
  have hsts : ∀ v w',stOf ops (listed.setIfInBounds i true) (a.put o.dst v) w'=(upd (stOf ops listed a w).1 i (pv o a v),w'):=by
   intro v w'
   unfold stOf upd
   refine Prod.ext (funext fun j => ?_) rfl
   dsimp only
   by_cases e : j=i
   ·subst e
    rw [if_pos rfl,if_pos (by simp [hisz]),hself]
   ·rw [if_neg e,getD_set_ne false (fun e'=>e e'.symm)]
    by_cases hj : listed.getD j false=true
    ·rw [if_pos hj,if_pos hj,hsame v j e hj]
    ·rw [if_neg hj,if_neg hj]
  have hput : ∀ v w',prS L i (pv o a v) (upd (stOf ops listed a w).1 i (pv o a v),w')→R (stOf ops listed a w) (upd (stOf ops listed a w).1 i (pv o a v),w')→RSt ops R L a0 w0.drew (listed.setIfInBounds i true) (a.put o.dst v) w':=by
   intro v w' hv hE
   refine ⟨by simpa using r1,by rw [put_def];exact r2,by rw [put_size];exact r3,fun t ht => ?_,fun j hj => ?_,by rw [hsts];exact ht _ _ _ r6 hE,fun j u hu hj e he1 he2 => ?_⟩
   ·rw [put_ne _ _ (ht o (by rw [Array.mem_toList_iff];exact Array.mem_of_getElem? ho))]
    exact r4 t ht
   ·rw [hsts]
    by_cases e : j=i
    ·subst e
     rw [hself]
     exact hv
    ·rw [getD_set_ne false (fun e'=>e e'.symm)] at hj
     rw [hsame v j e hj]
     exact prS_ext (r5 j hj) hE
   ·have key : listed.getD e.on false=true:=by
     by_cases e' : j=i
     ·subst e'
      rw [ho] at hu
      cases hu
      exact g2 e he1 he2
     ·rw [getD_set_ne false (fun h=>e' h.symm)] at hj
      exact r7 j u hu hj e he1 he2
    by_cases e2 : e.on=i
    ·rw [e2];simp [hisz]
    ·rw [getD_set_ne false (fun h=>e2 h.symm)]
     exact key
  have hdep:=hst (stOf ops listed a w).1 a w (by show (if listed.getD i false=true then _ else none)=none;rw [gF];rfl) r6 (fun j hj=>by
   obtain ⟨e,he1,he2⟩:=Array.any_eq_true'.1 hj
   simp only [Bool.and_eq_true,beq_iff_eq] at he2
   have:=g2 e he1 he2.1
   rw [he2.2] at this
   exact ⟨r5 j this,by show (if listed.getD j false=true then _ else none)=_;rw [if_pos this]⟩) (fun t ht=>by
   have:=r4 t (fun o ho'=>by simpa using List.all_eq_true.1 ht o ho')
   rw [eval_tmp,eval_tmp,this])
  unfold wpOp
  simp only [ho]
  rcases hdep with ⟨hw,h⟩ | ⟨hw,h,h'⟩
  ·rw [if_pos hw]
   exact .inl (h _ hput)
  ·rw [if_neg (by rw [hw];simp)]
   exact hput _ _ h h'
 ·intro listed a w ⟨r1,r2,r3,r4,r5,r6,_r7⟩ hrd
  have hall : ∀ n i,i < n→i < ops.size→listed.getD i false=true:=by
   intro n
   induction n with
   | zero=>intro i h;omega
   | succ n ih =>
    intro i hi his
    cases hli : listed.getD i true
    ·exfalso
     obtain ⟨o,ho⟩ : ∃ o,ops[i]? = some o:=⟨ops[i],by simp [his]⟩
     have : i ∈ Region.ready .any ops listed:=mem_ready.2 ⟨hli,o,ho,fun e he1 he2=>by
      have:=hafter i o ho e he1 he2
      exact ih _ (by omega) (by omega)⟩
     rw [hrd] at this
     cases this
    ·have hsz : i < listed.size:=by rw [r1];exact his
     simpa [hsz] using hli
  have : putAll (fun i=>slotV ops a i) ops.toList 0 a0=a:=by
   have e1 : (putAll (fun i=>slotV ops a i) ops.toList 0 a0).tmps=a.tmps:=by
    apply Array.ext_getElem?
    intro t
    by_cases hx : ∃ o ∈ ops.toList,o.dst=some t
    ·obtain ⟨o,hom,hd⟩:=hx
     obtain ⟨i,hi⟩:=List.mem_iff_getElem?.1 hom
     have ho : ops[i]? = some o:=by rw [← Array.getElem?_toList];exact hi
     have hdn:=hdst i o t ho hd
     rw [putAll_fm _ ops.toList 0 a0 i o h2 hi hd hdn,Nat.zero_add]
     unfold slotV
     rw [ho]
     simp only [hd]
     show some (a.eval (.tmp t))=_
     rw [eval_tmp,Array.getElem?_eq_getElem (by rw [r3];exact hdn)]
     rfl
    ·have hx' : ∀ o ∈ ops.toList,o.dst≠some t:=fun o h1 h2=>hx ⟨o,h1,h2⟩
     rw [putAll_ne _ _ _ _ hx',r4 t hx']
   have e2:=putAll_def (fun i=>slotV ops a i) ops.toList 0 a0
   rw [← r2] at e2
   cases a
   cases hp : putAll (fun i=>_) ops.toList 0 a0
   simp_all
  exact he (fun i=>slotV ops a i) (stOf ops listed a w).1 a w this.symm r6 (fun i hi=>r5 i (hall _ i (Nat.lt_succ_self i) hi)) (fun i=>rfl) (fun i hi=>by show (if listed.getD i false=true then _ else none)=_;rw [if_pos (hall _ i (Nat.lt_succ_self i) hi)])
 ·have h0 : stOf ops (Array.replicate ops.size false) a0 w0.drew=(none',w0.drew):=by
   refine Prod.ext (funext fun j => ?_) rfl
   show (if (Array.replicate ops.size false).getD j false=true then _ else none)=none
   rw [if_neg]
   by_cases h : j < ops.size <;> simp [h]
  refine ⟨by simp,rfl,rfl,fun _ _=>rfl,fun i hi => ?_,(show R (none',w0.drew) (stOf ops (Array.replicate ops.size false) a0 w0.drew) by rw [h0];exact hr _),fun i o _ hi => ?_⟩ <;> (exfalso;by_cases h : i < ops.size <;> simp [h] at hi)
end
end Go.Proofs.YtnplphcnagooeaaGreatDoor

/- States of a region that differ in new blocks and in the contents of the variables that the region itself makes. -/
namespace Go.Proofs.YtnplphcnagooeaaGreatDoor
set_option maxRecDepth 100000
open Go.RowKit
def blk (Bx : List Nat) (β : Nat→Option Value) (x : Nat) : Prop := ∃ i ∈ Bx,β i=some (.pointer (some ⟨x,0,none⟩))
structure RX0 (N : Nat) (Bx : List Nat) (s s' : St) : Prop where
 grow : ∀ i v,s.1 i=some v→s'.1 i=some v
 fresh : ∀ i ∈ Bx,s.1 i=none → ∀ x,s'.1 i=some (.pointer (some ⟨x,0,none⟩))→s.2.heap.size≤x∧x < s'.2.heap.size
 os : s'.2.os=s.2.os
 tape : s'.2.tape=s.2.tape
 output : s'.2.output=s.2.output
 size : s.2.heap.size≤s'.2.heap.size
 block : ∀ b,b < s.2.heap.size→s'.2.heap[b]? = s.2.heap[b]? ∨ (N≤b∧blk Bx s.1 b ∧ ∃ T vs vs',Box s.2 b T vs∧Box s'.2 b T vs'∧vs'.size=vs.size)
structure RX (N : Nat) (Bx : List Nat) (X : TypeId→St→Array Value→Prop) (s s' : St) : Prop where
 grow : ∀ i v,s.1 i=some v→s'.1 i=some v
 fresh : ∀ i ∈ Bx,s.1 i=none → ∀ x,s'.1 i=some (.pointer (some ⟨x,0,none⟩))→s.2.heap.size≤x∧x < s'.2.heap.size
 os : s'.2.os=s.2.os
 tape : s'.2.tape=s.2.tape
 output : s'.2.output=s.2.output
 size : s.2.heap.size≤s'.2.heap.size
 block : ∀ b,b < s.2.heap.size→s'.2.heap[b]? = s.2.heap[b]? ∨ (N≤b∧blk Bx s.1 b ∧ ∃ T vs vs',Box s.2 b T vs∧Box s'.2 b T vs'∧vs'.size=vs.size∧X T s' vs')
section
variable {N : Nat} {Bx : List Nat} {X : TypeId→St→Array Value→Prop} {s s' s'' : St}
theorem Box.uniq {w : World} {b : Nat} {T T' : TypeId} {vs vs' : Array Value} (h : Box w b T vs) (h' : Box w b T' vs') : T=T'∧vs=vs':=by
 have e:=(show w.heap[b]? = _ from h).symm.trans h'
 simp only [Option.some.injEq,Obj.cells.injEq,and_true] at e
 exact ⟨e.2,e.1⟩
theorem RX.rel (h : RX N Bx X s s') : RX0 N Bx s s':=⟨h.grow,h.fresh,h.os,h.tape,h.output,h.size,fun b hb=>(h.block b hb).imp id fun ⟨h1,h2,T,vs,vs',h3,h4,h5,_⟩=>⟨h1,h2,T,vs,vs',h3,h4,h5⟩⟩
theorem RX.refl (s : St) : RX N Bx X s s:=⟨fun _ _ h=>h,fun _ _ h x e=>(by rw [h] at e;cases e),rfl,rfl,rfl,Nat.le_refl _,fun _ _ => .inl rfl⟩
theorem blk_back (hg : ∀ i v,s.1 i=some v→s'.1 i=some v) (hf : ∀ i ∈ Bx,s.1 i=none → ∀ x,s'.1 i=some (.pointer (some ⟨x,0,none⟩))→s.2.heap.size≤x∧x < s'.2.heap.size) {b : Nat} (hb : b < s.2.heap.size) (h : blk Bx s'.1 b) : blk Bx s.1 b:=by
 obtain ⟨i,hi,e⟩:=h
 refine ⟨i,hi,?_⟩
 cases h1 : s.1 i with
 | none=>have:=(hf i hi h1 b e).1;omega
 | some v=>rw [hg i v h1] at e;exact e
theorem RX.trans (hX : ∀ T s s' vs,X T s vs→RX0 N Bx s s'→X T s' vs) (h : RX N Bx X s s') (k : RX N Bx X s' s'') : RX N Bx X s s'':=by
 refine ⟨fun i v e=>k.grow i v (h.grow i v e),fun i hi e x e2 => ?_,k.os.trans h.os,k.tape.trans h.tape,k.output.trans h.output,Nat.le_trans h.size k.size,fun b hb => ?_⟩
 ·cases h1 : s'.1 i with
  | none=>have:=k.fresh i hi h1 x e2;have:=h.size;exact ⟨by omega,by omega⟩
  | some v =>
   have e3:=k.grow i v h1
   rw [e2] at e3
   cases e3
   have:=h.fresh i hi e x h1
   have:=k.size
   exact ⟨by omega,by omega⟩
 ·rcases k.block b (Nat.lt_of_lt_of_le hb h.size) with k1 | ⟨k1,k2,T,us,us',k3,k4,k5,k6⟩
  ·rcases h.block b hb with h1 | ⟨h1,h2,T,vs,vs',h3,h4,h5,h6⟩
   ·exact .inl (k1.trans h1)
   ·exact .inr ⟨h1,h2,T,vs,vs',h3,k1.trans h4,h5,hX _ _ _ _ h6 k.rel⟩
  ·have hb2:=blk_back h.grow h.fresh hb k2
   rcases h.block b hb with h1 | ⟨h1,h2,T',vs,vs',h3,h4,h5,h6⟩
   ·exact .inr ⟨k1,hb2,T,us,us',h1.symm.trans k3,k4,k5,k6⟩
   ·obtain ⟨rfl,rfl⟩:=Box.uniq h4 k3
    exact .inr ⟨k1,hb2,T',vs,us',h3,k4,k5.trans h5,k6⟩
theorem RX.to_ext (h : RX N Bx X s s') (hN : s.2.heap.size≤N) : Ext s.2 s'.2:=⟨h.os,h.tape,h.output,h.size,fun b hb=>by rcases h.block b hb with h1 | ⟨h1,-⟩;exact h1;omega⟩
variable {β : Nat→Option Value} {w w' : World} {i : Nat} {v : Value}
theorem upd_grow (h0 : β i=none) : ∀ k u,β k=some u→upd β i v k=some u:=fun k u e=>by
 unfold upd
 rw [if_neg]
 ·exact e
 ·intro h;subst h;rw [h0] at e;cases e
theorem RX.ext (h0 : β i=none) (hi : i ∉ Bx) (hE : Ext w w') : RX N Bx X (β,w) (upd β i v,w') :=
 ⟨upd_grow h0,fun k hk e x e2=>by
  have hne : k≠i:=fun h=>hi (h ▸ hk)
  have e3 : upd β i v k=some _:=e2
  unfold upd at e3
  rw [if_neg hne] at e3
  exact absurd (e.symm.trans e3) (by simp),hE.os,hE.tape,hE.output,hE.size,fun _ hb => .inl (hE.blk hb)⟩
theorem RX0.ext (h0 : β i=none) (hi : i ∉ Bx) (hE : Ext w w') : RX0 N Bx (β,w) (upd β i v,w'):=(RX.ext (X:=fun _ _ _=>True) h0 hi hE).rel
theorem RX.made (h0 : β i=none) (hE : Ext w w') (hv : ∀ x,v = .pointer (some ⟨x,0,none⟩)→w.heap.size≤x∧x < w'.heap.size) : RX N Bx X (β,w) (upd β i v,w') :=
 ⟨upd_grow h0,fun k _ e x e2=>by
  have e3 : upd β i v k=some _:=e2
  unfold upd at e3
  by_cases hk : k=i
  ·rw [if_pos hk] at e3;cases e3;exact hv x rfl
  ·rw [if_neg hk] at e3;exact absurd (e.symm.trans e3) (by simp),hE.os,hE.tape,hE.output,hE.size,fun _ hb => .inl (hE.blk hb)⟩
theorem RX.store {j b : Nat} {T : TypeId} {vs vs' : Array Value} (h0 : β i=none) (hi : i ∉ Bx) (hj : j ∈ Bx) (hb : β j=some (.pointer (some ⟨b,0,none⟩))) (hN : N≤b) (hE : ExtBut (· = b) w w') (h1 : Box w b T vs) (h2 : Box w' b T vs') (h3 : vs'.size=vs.size) (hX : RX0 N Bx (β,w) (upd β i v,w')→X T (upd β i v,w') vs') :
  X T (upd β i v,w') vs'∧RX N Bx X (β,w) (upd β i v,w'):=by
 have hf : ∀ k ∈ Bx,β k=none → ∀ x,upd β i v k=some (.pointer (some ⟨x,0,none⟩))→w.heap.size≤x∧x < w'.heap.size:=fun k hk e x e2=>by
  have hne : k≠i:=fun h=>hi (h ▸ hk)
  unfold upd at e2
  rw [if_neg hne] at e2
  exact absurd (e.symm.trans e2) (by simp)
 have h4:=hX ⟨upd_grow h0,hf,hE.os,hE.tape,hE.output,hE.size,fun c hc=>by
  by_cases e : c=b
  ·subst e;exact .inr ⟨hN,⟨j,hj,hb⟩,T,vs,vs',h1,h2,h3⟩
  ·exact .inl (hE.block c hc e)⟩
 exact ⟨h4,upd_grow h0,hf,hE.os,hE.tape,hE.output,hE.size,fun c hc=>by
  by_cases e : c=b
  ·subst e;exact .inr ⟨hN,⟨j,hj,hb⟩,T,vs,vs',h1,h2,h3,h4⟩
  ·exact .inl (hE.block c hc e)⟩
theorem RX.low {w0 : World} (h : RX N Bx X (none',w0) (β,w)) {x : Nat} (hb : blk Bx β x) : x < w.heap.size:=by
 obtain ⟨k,hk,e⟩:=hb
 exact (h.fresh k hk rfl x e).2
def FSb (N : Nat) (Bx : List Nat) (s : St) (R : World→Prop) : Prop:=Fq (fun x=>N≤x ∧ ¬ blk Bx s.1 x) s.2 R
theorem FSb.mono {R : World→Prop} (h : FSb N Bx s R) (k : RX0 N Bx s s') : FSb N Bx s' R:=fun w'' hw=>h w'' fun b h1 hl=>by
 have hn : ¬ blk Bx s'.1 b:=fun e=>h1.2 (blk_back k.grow k.fresh hl e)
 rw [hw b ⟨h1.1,hn⟩ (Nat.lt_of_lt_of_le hl k.size)]
 rcases k.block b hl with e | ⟨-,h2,-⟩
 ·exact e
 ·exact absurd h2 h1.2
theorem FSb.new {w0 : World} {R : World→Prop} (hR : RX N Bx X (none',w0) (β,w)) (hi : i ∉ Bx) (hN : N≤w.heap.size) (h : Fq (fun b=>w.heap.size≤b) w' R) : FSb N Bx (upd β i v,w') R :=
 Fq.mono h fun b h1 _=>⟨by omega,fun e=>by
  obtain ⟨k,hk,e2⟩:=e
  have e3 : upd β i v k=some _:=e2
  unfold upd at e3
  have hne : k≠i:=fun hki=>hi (hki ▸ hk)
  rw [if_neg hne] at e3
  have:=hR.low ⟨k,hk,e3⟩
  omega⟩
def PrFS (N : Nat) (Bx : List Nat) (X : TypeId→St→Array Value→Prop) {A : Type} (f : A→Value) (Rd : A→World→Prop) : PrS (RX N Bx X) :=
 ⟨fun v s => ∃ a,v=f a∧FSb N Bx s (Rd a),fun _ _ _ ⟨a,h1,h2⟩ hR=>⟨a,h1,h2.mono hR.rel⟩⟩
def PrBx (N : Nat) (Bx : List Nat) (X : TypeId→St→Array Value→Prop) (T : TypeId) (n : Nat) : PrS (RX N Bx X) :=
 ⟨fun v s => ∃ b,v = .pointer (some ⟨b,0,none⟩)∧N≤b∧BoxT T n s.2 b,fun _ s s' ⟨b,h1,h2,h3⟩ hR=>⟨b,h1,h2,by
  rcases hR.block b h3.lt with h4 | ⟨-,-,T',vs,vs',h5,h6,h7,-⟩
  ·obtain ⟨us,e1,e2⟩:=h3
   exact ⟨us,e1,h4.trans e2⟩
  ·obtain ⟨us,e1,e2⟩:=h3
   obtain ⟨rfl,rfl⟩:=Box.uniq e2 h5
   exact ⟨vs',h7.trans e1,h6⟩⟩⟩
def PrSt (N : Nat) (Bx : List Nat) (X : TypeId→St→Array Value→Prop) (hX : ∀ T s s' vs,X T s vs→RX0 N Bx s s'→X T s' vs) (T : TypeId) : PrS (RX N Bx X) :=
 ⟨fun v s => ∃ b vs,v = .pointer (some ⟨b,0,none⟩)∧N≤b∧Box s.2 b T vs∧X T s vs,fun _ s s' ⟨b,vs,h1,h2,h3,h4⟩ hR=>by
  rcases hR.block b h3.lt with h5 | ⟨-,-,T',us,us',h5,h6,-,h7⟩
  ·exact ⟨b,vs,h1,h2,h5.trans h3,hX _ _ _ _ h4 hR.rel⟩
  ·obtain ⟨rfl,rfl⟩:=Box.uniq h3 h5
   exact ⟨b,us',h1,h2,h6,h7⟩⟩
end
structure A3 where
 a1 : Option Addr
 c1 : Nat
 a2 : Option Addr
 c2 : Nat
 a3 : Option Addr
 c3 : Nat
def RdA (m : Mon) (a : A3) (w : World) : Prop:=Als w (.slice a.a1 m.mem.al.length a.c1) m.mem.al∧Kts w (.slice a.a2 m.stks.length a.c2) m.stks∧Nts w (.slice a.a3 m.run.length a.c3) m.run
def XM (N : Nat) (Bx : List Nat) (m : Mon) (pv : Array Value) (T : TypeId) (s : St) (vs : Array Value) : Prop :=
 (T=28 → ∃ a : A3,vs=#[.slice a.a1 m.mem.al.length a.c1,.int .i64 m.mem.next,.slice a.a2 m.stks.length a.c2,.slice a.a3 m.run.length a.c3,.int .i64 m.tag,.int .i64 m.call]∧FSb N Bx s (RdA m a))∧(T=30→vs=pv)
theorem XM_st {N : Nat} {Bx : List Nat} {m : Mon} {pv : Array Value} : ∀ T s s' vs,XM N Bx m pv T s vs→RX0 N Bx s s'→XM N Bx m pv T s' vs:=fun _ _ _ _ h k=>⟨fun e=>by
 obtain ⟨a,h1,h2⟩:=h.1 e
 exact ⟨a,h1,h2.mono k⟩,h.2⟩
theorem FrMon.a3 {w w' : World} {v : Value} {m : Mon} (h : FrMon w w' v m) : ∃ a : A3,v = .agg #[.slice a.a1 m.mem.al.length a.c1,.int .i64 m.mem.next,.slice a.a2 m.stks.length a.c2,.slice a.a3 m.run.length a.c3,.int .i64 m.tag,.int .i64 m.call]∧Fq (fun b=>w.heap.size≤b) w' (RdA m a):=by
 obtain ⟨sa,ss,sr,rfl,q⟩:=FrMon.parts h
 obtain ⟨a1,c1,rfl,-⟩:=(q.read).1.form
 obtain ⟨a2,c2,rfl,-⟩:=(q.read).2.1.form
 obtain ⟨a3,c3,rfl,-⟩:=(q.read).2.2.form
 exact ⟨⟨a1,c1,a2,c2,a3,c3⟩,rfl,q⟩
theorem Cls.litF (w : World) (cs : Array Value) (l : List Cell) (n : Nat) (hn : n=l.length) (h2 : n≤maxLen) (hc : cs.toList=l.flatMap Cell.row) : Fq (fun b=>w.heap.size≤b) (w.alloc (.cells cs 78)) (fun w'=>Cls w' (.slice (some ⟨w.heap.size,0,none⟩) n n) l):=by
 subst hn
 have hs : cs.size=l.length * 5:=by
  rw [← Array.length_toList,hc]
  exact rows_len (k:=5) Cell.row (fun _=>rfl) l
 have hO:=Own.lit' (B:=w.heap.size) (e:=78) (k:=5) w cs l.length (Nat.le_refl _) h2 hs
 rw [hc] at hO
 exact (Own.fs hO).mono fun b e _=>(hO.lt e).1
end Go.Proofs.YtnplphcnagooeaaGreatDoor
