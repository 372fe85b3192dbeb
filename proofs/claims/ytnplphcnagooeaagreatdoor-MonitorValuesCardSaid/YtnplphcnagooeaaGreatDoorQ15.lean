/- Several texts in one: RegInr, BoxR. -/
import Derived.Test.YtnplphcnagooeaaGreatDoorQ09
import Derived.Test.YtnplphcnagooeaaGreatDoorQ01
/- A region that draws its order, by what each operation leaves, under a relation of one's own between worlds (stores into fresh boxes too). -/
namespace Go.Proofs.YtnplphcnagooeaaGreatDoor
set_option maxRecDepth 100000
open Go
section
variable {P : Program} {ops : Array Oper} {Q : Exit→Act→World→Prop} {md : Region.Mode} {R : World→World→Prop}
structure PrR (R : World→World→Prop) where
 p : Value→World→Prop
 m : ∀ v w w',p v w→R w w'→p v w'
def PrR.eq (R : World→World→Prop) (u : Value) : PrR R:=⟨fun v _=>v=u,fun _ _ _ h _=>h⟩
def PrR.any (R : World→World→Prop) : PrR R:=⟨fun _ _=>True,fun _ _ _ h _=>h⟩
def prR (L : List (PrR R)) (i : Nat) (v : Value) (w : World) : Prop:=match L[i]? with
 | some q=>q.p v w
 | none=>True
theorem prR_ext {L : List (PrR R)} {i : Nat} {v : Value} {w w' : World} (h : prR L i v w) (he : R w w') : prR L i v w':=by
 unfold prR at *
 cases hq : L[i]? with
 | none=>trivial
 | some q=>rw [hq] at h;exact q.m _ _ _ h he
def addrV (o : Oper) (a : Act) : Value:=match o.op with
 | .store _ (.tmp t) _=>a.eval (.tmp t)
 | _=>undef
def slotV (ops : Array Oper) (a : Act) (i : Nat) : Value:=match ops[i]? with
 | some o=>(match o.dst with
  | some d=>a.eval (.tmp d)
  | none=>addrV o a)
 | none=>undef
theorem fm_inj : ∀ (l : List Oper),(l.filterMap (·.dst)).Nodup → ∀ (i j : Nat) (o u : Oper) (d : Nat),l[i]? = some o→l[j]? = some u→o.dst=some d→u.dst=some d→i=j
 | [],_,i,j,o,u,d,hi,_,_,_=>by simp at hi
 | x :: l,hn,i,j,o,u,d,hi,hj,ho,hu=>by
  have htl : (l.filterMap (·.dst)).Nodup:=by
   cases hx : x.dst with
   | none=>rwa [List.filterMap_cons_none hx] at hn
   | some e=>rw [List.filterMap_cons_some hx] at hn;exact (List.nodup_cons.1 hn).2
  cases i with
  | zero =>
   cases j with
   | zero=>rfl
   | succ j =>
    exfalso
    simp at hi;subst hi
    rw [List.filterMap_cons_some ho] at hn
    exact (List.nodup_cons.1 hn).1 (List.mem_filterMap.2 ⟨u,List.mem_of_getElem? (by simpa using hj),hu⟩)
  | succ i =>
   cases j with
   | zero =>
    exfalso
    simp at hj;subst hj
    rw [List.filterMap_cons_some hu] at hn
    exact (List.nodup_cons.1 hn).1 (List.mem_filterMap.2 ⟨o,List.mem_of_getElem? (by simpa using hi),ho⟩)
   | succ j=>exact congrArg (· + 1) (fm_inj l htl i j o u d (by simpa using hi) (by simpa using hj) ho hu)
theorem putAll_fm (vals : Nat→Value) {t : Nat} : ∀ (l : List Oper) (k : Nat) (a : Act) (i : Nat) (o : Oper),(l.filterMap (·.dst)).Nodup→l[i]? = some o→o.dst=some t→t < a.tmps.size→(putAll vals l k a).tmps[t]? = some (vals (k+i))
 | [],_,_,_,_,_,h,_,_=>by simp at h
 | x :: l,k,a,0,o,hn,ho,hd,ht=>by
  simp at ho;subst ho
  rw [List.filterMap_cons_some hd] at hn
  rw [putAll,putAll_ne vals l _ _ (fun y hy e=>(List.nodup_cons.1 hn).1 (List.mem_filterMap.2 ⟨y,hy,e⟩)),hd,put_eq _ _ ht]
  rfl
 | x :: l,k,a,i+1,o,hn,ho,hd,ht=>by
  have htl : (l.filterMap (·.dst)).Nodup:=by
   cases hx : x.dst with
   | none=>rwa [List.filterMap_cons_none hx] at hn
   | some e=>rw [List.filterMap_cons_some hx] at hn;exact (List.nodup_cons.1 hn).2
  rw [putAll,putAll_fm vals l (k+1) _ i o htl (by simpa using ho) hd (by rw [put_size];exact ht),show k+1+i=k+(i+1) by omega]
def pv (o : Oper) (a : Act) (v : Value) : Value:=match o.dst with
 | some _=>v
 | none=>addrV o a
def RR (ops : Array Oper) (R : World→World→Prop) (L : List (PrR R)) (a0 : Act) (w0 : World) (listed : Array Bool) (a : Act) (w : World) : Prop :=
 listed.size=ops.size∧a.defers=a0.defers∧a.tmps.size=a0.tmps.size∧(∀ t,(∀ o ∈ ops.toList,o.dst≠some t)→a.tmps[t]? = a0.tmps[t]?)∧(∀ i,listed.getD i false=true→prR L i (slotV ops a i) w)∧R w0 w∧(∀ (i : Nat) (o : Oper),ops[i]? = some o→listed.getD i false=true → ∀ e ∈ o.after,Region.binds .any e=true→listed.getD e.on false=true)
def regOR (md : Region.Mode) (ops : Array Oper) (n : Nat) : Bool :=
 (ops.toList.all fun o=>match o.dst with | some d=>decide (d < n) | none=>true) && decide ((ops.toList.filterMap (·.dst)).Nodup)
 && ((List.range ops.size).all fun i=>((ops[i]?).map fun o=>o.after.all fun e => !Region.binds md e || decide (e.on < i)).getD true)
 && (ops.toList.all fun o=>match o.op with
  | .store _ (.tmp t) _=>(List.range ops.size).all fun k=>(((ops[k]?).map fun u=>u.dst != some t).getD true) || (o.after.any fun e=>Region.binds md e && e.on == k)
  | _=>true)
def StepR (P : Program) (md : Region.Mode) (ops : Array Oper) (Q : Exit→Act→World→Prop) (R : World→World→Prop) (L : List (PrR R)) (a0 : Act) (w0 : World) (i : Nat) (o : Oper) : Prop :=
 ∀ (a : Act) (w : World),R w0 w→(∀ j,(o.after.any fun e=>Region.binds md e && e.on == j)=true→prR L j (slotV ops a j) w) →
  (∀ t,ops.toList.all (fun o=>o.dst != some t)=true→a.eval (.tmp t)=a0.eval (.tmp t)) →
  (Region.wanted o (yielded ops a.tmps)=true ∧ ∀ K : Act→World→Prop,(∀ v w',prR L i (pv o a v) w'→R w w'→K (a.put o.dst v) w')→o.wp P a w K Q)∨(Region.wanted o (yielded ops a.tmps)=false∧prR L i (pv o a undef) w)
theorem wp_region_rel {id : Nat} {a0 : Act} {w0 : World} (hr : ∀ w,R w w) (ht : ∀ a b c,R a b→R b c→R a c) (L : List (PrR R)) (hm : P.follows .mixedOrders=true) (hok : regOR .any ops a0.tmps.size=true)
  (hs : AllSteps (StepR P .any ops Q R L a0 w0.drew) ops.toList 0)
  (he : ∀ (vals : Nat→Value) (A : Act) (w : World),A=putAll vals ops.toList 0 a0→R w0.drew w→(∀ i,i < ops.size→prR L i (vals i) w)→(∀ i,vals i=slotV ops A i)→Q .normal A w) :
  (Code.region id ops true).wp P Q a0 w0:=by
 unfold regOR at hok
 simp only [Bool.and_eq_true,decide_eq_true_eq] at hok
 obtain ⟨⟨⟨h1,h2⟩,h3⟩,h4⟩:=hok
 have hdst : ∀ (i : Nat) (o : Oper) (d : Nat),ops[i]? = some o→o.dst=some d→d < a0.tmps.size:=by
  intro i o d ho hd
  have hm' : o ∈ ops.toList:=by rw [Array.mem_toList_iff];exact Array.mem_of_getElem? ho
  have:=List.all_eq_true.1 h1 o hm'
  rw [hd] at this
  simpa using this
 have hafter : ∀ (i : Nat) (o : Oper),ops[i]? = some o → ∀ e ∈ o.after,Region.binds .any e=true→e.on < i:=by
  intro i o ho e hea hb
  have hi:=(Array.getElem?_eq_some_iff.1 ho).1
  have:=List.all_eq_true.1 h3 i (List.mem_range.2 hi)
  rw [ho] at this
  simp only [Option.map_some,Option.getD_some,Array.all_eq_true_iff_forall_mem] at this
  have:=this e hea
  simpa [hb] using this
 have hinj : ∀ (i j : Nat) (o u : Oper) (d : Nat),ops[i]? = some o→ops[j]? = some u→o.dst=some d→u.dst=some d→i=j:=fun i j o u d hi hj ho hu =>
  fm_inj ops.toList h2 i j o u d (by rw [Array.getElem?_toList];exact hi) (by rw [Array.getElem?_toList];exact hj) ho hu
 refine wp_region_any hm (wpAny_inv (I:=RR ops R L a0 w0.drew) ?_ ?_ _ _ _ _ (by unfold unl;refine Nat.le_trans (List.length_filter_le _ _) (by simp)) ?_)
 ·intro listed a w i ⟨r1,r2,r3,r4,r5,r6,r7⟩ hi
  obtain ⟨g1,o,ho,g2⟩:=mem_ready.1 hi
  have hst:=AllSteps.get (i:=i) hs (by rw [Array.getElem?_toList];exact ho)
  rw [Nat.zero_add] at hst
  have hput : ∀ v w',prR L i (pv o a v) w'→R w w'→RR ops R L a0 w0.drew (listed.setIfInBounds i true) (a.put o.dst v) w':=by
   intro v w' hv hE
   refine ⟨by simpa using r1,by rw [put_def];exact r2,by rw [put_size];exact r3,fun t ht => ?_,fun j hj => ?_,ht _ _ _ r6 hE,fun j u hu hj e he1 he2 => ?_⟩
   ·rw [put_ne _ _ (ht o (by rw [Array.mem_toList_iff];exact Array.mem_of_getElem? ho))]
    exact r4 t ht
   ·by_cases e : j=i
    ·subst e
     unfold slotV
     unfold pv at hv
     rw [ho]
     cases hd : o.dst with
     | none=>rw [hd] at hv;simp only [hd];exact hv
     | some d =>
      rw [hd] at hv
      simp only [hd]
      show prR L j ((a.put (some d) v).eval (.tmp d)) w'
      rw [eval_tmp,put_eq _ _ (by rw [r3];exact hdst j o d ho hd)]
      exact hv
    ·rw [getD_set_ne false (fun e'=>e e'.symm)] at hj
     have h5:=prR_ext (r5 j hj) hE
     have : slotV ops (a.put o.dst v) j=slotV ops a j:=by
      unfold slotV
      cases hu : ops[j]? with
      | none=>rfl
      | some u =>
       cases hd' : u.dst with
       | none =>
        simp only [hd']
        unfold addrV
        split
        ·rename_i t x hop
         have hne : o.dst≠some t:=by
          intro ho2
          have hmu : u ∈ ops.toList:=by rw [Array.mem_toList_iff];exact Array.mem_of_getElem? hu
          have h6:=List.all_eq_true.1 h4 u hmu
          rw [hop] at h6
          have h7:=List.all_eq_true.1 h6 i (List.mem_range.2 (Array.getElem?_eq_some_iff.1 ho).1)
          rw [ho] at h7
          simp only [Option.map_some,Option.getD_some,Bool.or_eq_true,bne_iff_ne,ne_eq,ho2,not_true_eq_false,false_or] at h7
          obtain ⟨e3,he3,he4⟩:=Array.any_eq_true'.1 h7
          simp only [Bool.and_eq_true,beq_iff_eq] at he4
          have h8:=r7 j u hu hj e3 he3 he4.1
          rw [he4.2] at h8
          have hsz : i < listed.size:=by rw [r1];exact (Array.getElem?_eq_some_iff.1 ho).1
          simp [hsz] at h8 g1
          rw [g1] at h8
          cases h8
         show (a.put o.dst v).eval (.tmp t)=a.eval (.tmp t)
         rw [eval_tmp,eval_tmp,put_ne _ _ hne]
        ·rfl
       | some d' =>
        simp only [hd']
        show (a.put o.dst v).eval (.tmp d')=a.eval (.tmp d')
        rw [eval_tmp,eval_tmp,put_ne _ _ (fun e'=>e (hinj j i u o d' hu ho hd' e'))]
     rw [this]
     exact h5
   ·have hsz : i < listed.size:=by rw [r1];exact (Array.getElem?_eq_some_iff.1 ho).1
    have key : listed.getD e.on false=true:=by
     by_cases e' : j=i
     ·subst e'
      rw [ho] at hu
      cases hu
      exact g2 e he1 he2
     ·rw [getD_set_ne false (fun h=>e' h.symm)] at hj
      exact r7 j u hu hj e he1 he2
    by_cases e2 : e.on=i
    ·rw [e2];simp [hsz]
    ·rw [getD_set_ne false (fun h=>e2 h.symm)]
     exact key
  have hdep:=hst a w r6 (fun j hj=>by
   obtain ⟨e,he1,he2⟩:=Array.any_eq_true'.1 hj
   simp only [Bool.and_eq_true,beq_iff_eq] at he2
   have:=g2 e he1 he2.1
   rw [he2.2] at this
   exact r5 j this) (fun t ht=>by
   have:=r4 t (fun o ho'=>by simpa using List.all_eq_true.1 ht o ho')
   rw [eval_tmp,eval_tmp,this])
  unfold wpOp
  simp only [ho]
  rcases hdep with ⟨hw,h⟩ | ⟨hw,h⟩
  ·rw [if_pos hw]
   exact .inl (h _ hput)
  ·rw [if_neg (by rw [hw];simp)]
   exact hput _ _ h (hr _)
 ·intro listed a w ⟨r1,r2,r3,r4,r5,r6,_r7⟩ hrd
  have hall : ∀ n i,i < n→i < ops.size→listed.getD i false=true:=by
   intro n
   induction n with
   | zero=>intro i h;omega
   | succ n ih =>
    intro i hi his
    cases hli : listed.getD i true
    ·exfalso
     obtain ⟨o,ho⟩ : ∃ o,ops[i]? = some o:=⟨ops[i],by simp [his]⟩
     have : i ∈ Region.ready .any ops listed:=mem_ready.2 ⟨hli,o,ho,fun e he1 he2=>by
      have:=hafter i o ho e he1 he2
      exact ih _ (by omega) (by omega)⟩
     rw [hrd] at this
     cases this
    ·have hsz : i < listed.size:=by rw [r1];exact his
     simpa [hsz] using hli
  have : putAll (fun i=>slotV ops a i) ops.toList 0 a0=a:=by
   have e1 : (putAll (fun i=>slotV ops a i) ops.toList 0 a0).tmps=a.tmps:=by
    apply Array.ext_getElem?
    intro t
    by_cases hx : ∃ o ∈ ops.toList,o.dst=some t
    ·obtain ⟨o,hom,hd⟩:=hx
     obtain ⟨i,hi⟩:=List.mem_iff_getElem?.1 hom
     have ho : ops[i]? = some o:=by rw [← Array.getElem?_toList];exact hi
     have hdn:=hdst i o t ho hd
     rw [putAll_fm _ ops.toList 0 a0 i o h2 hi hd hdn,Nat.zero_add]
     unfold slotV
     rw [ho]
     simp only [hd]
     show some (a.eval (.tmp t))=_
     rw [eval_tmp,Array.getElem?_eq_getElem (by rw [r3];exact hdn)]
     rfl
    ·have hx' : ∀ o ∈ ops.toList,o.dst≠some t:=fun o h1 h2=>hx ⟨o,h1,h2⟩
     rw [putAll_ne _ _ _ _ hx',r4 t hx']
   have e2:=putAll_def (fun i=>slotV ops a i) ops.toList 0 a0
   rw [← r2] at e2
   cases a
   cases hp : putAll (fun i=>_) ops.toList 0 a0
   simp_all
  exact he (fun i=>slotV ops a i) a w this.symm r6 (fun i hi=>r5 i (hall _ i (Nat.lt_succ_self i) hi)) (fun i=>rfl)
 ·refine ⟨by simp,rfl,rfl,fun _ _=>rfl,fun i hi => ?_,hr _,fun i o _ hi => ?_⟩ <;> (exfalso;by_cases h : i < ops.size <;> simp [h] at hi)
end
end Go.Proofs.YtnplphcnagooeaaGreatDoor

/- Worlds that differ in new blocks and in the contents of fresh variables of one type. -/
namespace Go.Proofs.YtnplphcnagooeaaGreatDoor
set_option maxRecDepth 100000
open Go.RowKit
def BoxT (T : TypeId) (n : Nat) (w : World) (b : Nat) : Prop := ∃ vs : Array Value,vs.size=n∧Box w b T vs
structure BxR (N : Nat) (T : TypeId) (n : Nat) (w w' : World) : Prop where
 os : w'.os=w.os
 tape : w'.tape=w.tape
 output : w'.output=w.output
 size : w.heap.size≤w'.heap.size
 block : ∀ b,b < w.heap.size→w'.heap[b]? = w.heap[b]? ∨ (N≤b∧BoxT T n w b∧BoxT T n w' b)
section
variable {N n : Nat} {T : TypeId} {w w' w'' : World}
theorem BxR.refl (w : World) : BxR N T n w w:=⟨rfl,rfl,rfl,Nat.le_refl _,fun _ _ => .inl rfl⟩
theorem BoxT.lt {b : Nat} (h : BoxT T n w b) : b < w.heap.size:=by
 obtain ⟨vs,-,h⟩:=h
 exact h.lt
theorem BxR.boxT {b : Nat} (h : BxR N T n w w') (hb : BoxT T n w b) : BoxT T n w' b:=by
 rcases h.block b hb.lt with h1 | ⟨-,-,h1⟩
 ·obtain ⟨vs,h2,h3⟩:=hb
  exact ⟨vs,h2,h1.trans h3⟩
 ·exact h1
theorem BxR.trans (h : BxR N T n w w') (k : BxR N T n w' w'') : BxR N T n w w'':=by
 refine ⟨k.os.trans h.os,k.tape.trans h.tape,k.output.trans h.output,Nat.le_trans h.size k.size,fun b hb => ?_⟩
 rcases k.block b (Nat.lt_of_lt_of_le hb h.size) with k1 | ⟨k1,k2,k3⟩
 ·rcases h.block b hb with h1 | ⟨h1,h2,h3⟩
  ·exact .inl (k1.trans h1)
  ·refine .inr ⟨h1,h2,?_⟩
   obtain ⟨vs,e1,e2⟩:=h3
   exact ⟨vs,e1,k1.trans e2⟩
 ·rcases h.block b hb with h1 | ⟨h1,h2,h3⟩
  ·refine .inr ⟨k1,?_,k3⟩
   obtain ⟨vs,e1,e2⟩:=k2
   exact ⟨vs,e1,h1.symm.trans e2⟩
  ·exact .inr ⟨h1,h2,k3⟩
theorem BxR.of_ext (h : Ext w w') : BxR N T n w w':=⟨h.os,h.tape,h.output,h.size,fun _ hb => .inl (h.blk hb)⟩
theorem BxR.to_ext (h : BxR N T n w w') (hN : w.heap.size≤N) : Ext w w':=⟨h.os,h.tape,h.output,h.size,fun b hb=>by rcases h.block b hb with h1 | ⟨h1,-,-⟩;exact h1;omega⟩
theorem BxR.set {b : Nat} (hb : BoxT T n w b) (hN : N≤b) (j : Nat) (u : Value) : BxR N T n w (w.setCell ⟨b,j,none⟩ u):=by
 have hE:=ExtBut.setCell w ⟨b,j,none⟩ u
 refine ⟨hE.os,hE.tape,hE.output,hE.size,fun c hc => ?_⟩
 by_cases e : c=b
 ·subst e
  obtain ⟨vs,h1,h2⟩:=hb
  exact .inr ⟨hN,⟨vs,h1,h2⟩,⟨_,by simpa using h1,h2.set j u⟩⟩
 ·exact .inl (hE.block c hc e)
theorem Sl.bxr {k m : Nat} {v : Value} {xs : List Value} (h : Sl w k v m xs) (hx : n < xs.length) (hR : BxR N T n w w') : Sl w' k v m xs:=by
 obtain ⟨h1,a,cap,h2,h3,h4,h5,h6⟩:=h
 obtain ⟨b,off,rfl,hc0⟩:=h6 n _ (List.getElem?_eq_getElem hx)
 have hb:=World.block_lt_of_cell? _ _ hc0
 have hsame : w'.heap[b]? = w.heap[b]? := by
  rcases hR.block b hb with h7 | ⟨-,⟨vs,e1,e2⟩,-⟩
  ·exact h7
  ·exfalso
   rw [e2.cell,Array.getElem?_eq_none (by omega)] at hc0
   cases hc0
 refine ⟨h1,_,cap,h2,h3,h4,h5,fun j u hj => ?_⟩
 obtain ⟨b',off',e,hc⟩:=h6 j u hj
 cases e
 exact ⟨b,off,rfl,by rw [← hc];exact World.cell?_of_block hsame⟩
end
structure BxX (N : Nat) (T : TypeId) (n : Nat) (X : World→Array Value→Prop) (w w' : World) : Prop where
 os : w'.os=w.os
 tape : w'.tape=w.tape
 output : w'.output=w.output
 size : w.heap.size≤w'.heap.size
 block : ∀ b,b < w.heap.size→w'.heap[b]? = w.heap[b]? ∨ (N≤b∧BoxT T n w b ∧ ∃ vs,vs.size=n∧Box w' b T vs∧X w' vs)
section
variable {N n : Nat} {T : TypeId} {X : World→Array Value→Prop} {w w' w'' : World}
theorem BxX.refl (w : World) : BxX N T n X w w:=⟨rfl,rfl,rfl,Nat.le_refl _,fun _ _ => .inl rfl⟩
theorem BxX.rel (h : BxX N T n X w w') : BxR N T n w w':=⟨h.os,h.tape,h.output,h.size,fun b hb=>(h.block b hb).imp id fun ⟨h1,h2,vs,h3,h4,_⟩=>⟨h1,h2,vs,h3,h4⟩⟩
theorem BxX.trans (hX : ∀ w w' vs,X w vs→BxR N T n w w'→X w' vs) (h : BxX N T n X w w') (k : BxX N T n X w' w'') : BxX N T n X w w'':=by
 refine ⟨k.os.trans h.os,k.tape.trans h.tape,k.output.trans h.output,Nat.le_trans h.size k.size,fun b hb => ?_⟩
 rcases k.block b (Nat.lt_of_lt_of_le hb h.size) with k1 | ⟨k1,k2,k3⟩
 ·rcases h.block b hb with h1 | ⟨h1,h2,vs,h3,h4,h5⟩
  ·exact .inl (k1.trans h1)
  ·exact .inr ⟨h1,h2,vs,h3,k1.trans h4,hX _ _ _ h5 k.rel⟩
 ·rcases h.block b hb with h1 | ⟨h1,h2,-⟩
  ·refine .inr ⟨k1,?_,k3⟩
   obtain ⟨vs,e1,e2⟩:=k2
   exact ⟨vs,e1,h1.symm.trans e2⟩
  ·exact .inr ⟨h1,h2,k3⟩
theorem BxX.of_ext (h : Ext w w') : BxX N T n X w w':=⟨h.os,h.tape,h.output,h.size,fun _ hb => .inl (h.blk hb)⟩
theorem BxX.to_ext (h : BxX N T n X w w') (hN : w.heap.size≤N) : Ext w w':=h.rel.to_ext hN
theorem BxX.but {b : Nat} (hE : ExtBut (· = b) w w') (hb : BoxT T n w b) (hN : N≤b) {vs : Array Value} (hs : vs.size=n) (hB : Box w' b T vs) (hX : X w' vs) : BxX N T n X w w' :=
 ⟨hE.os,hE.tape,hE.output,hE.size,fun c hc=>by
  by_cases e : c=b
  ·subst e;exact .inr ⟨hN,hb,vs,hs,hB,hX⟩
  ·exact .inl (hE.block c hc e)⟩
def PrR.up {N n : Nat} {T : TypeId} {X : World→Array Value→Prop} (q : PrR (BxR N T n)) : PrR (BxX N T n X):=⟨q.p,fun v w w' h hR=>q.m v w w' h hR.rel⟩
end
def PrRB (N : Nat) (T : TypeId) (n : Nat) : PrR (BxR N T n):=⟨fun v w => ∃ b,v = .pointer (some ⟨b,0,none⟩)∧N≤b∧BoxT T n w b,fun _ _ _ ⟨b,h1,h2,h3⟩ hR=>⟨b,h1,h2,hR.boxT h3⟩⟩
end Go.Proofs.YtnplphcnagooeaaGreatDoor
