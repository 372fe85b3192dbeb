/- Several texts in one: RegInr, BoxR, BoxO, MonP, MonH. -/
import Derived.Test.YtnplphcnagooeaaGreatDoorQ08
import Derived.Test.YtnplphcnagooeaaGreatDoorQ01
import Derived.Test.YtnplphcnagooeaaGreatDoorQ10
import Derived.Test.YtnplphcnagooeaaGreatDoorQ06
import Derived.Test.YtnplphcnagooeaaGreatDoorQ11
/- A region that draws its order, by what each operation leaves, under a relation of one's own between worlds (stores into fresh boxes too). -/
namespace Go.Proofs.YtnplphcnagooeaaGreatDoor
set_option maxRecDepth 100000
open Go
section
variable {P : Program} {ops : Array Oper} {Q : Exit→Act→World→Prop} {md : Region.Mode} {R : World→World→Prop}
structure PrR (R : World→World→Prop) where
 p : Value→World→Prop
 m : ∀ v w w',p v w→R w w'→p v w'
def PrR.eq (R : World→World→Prop) (u : Value) : PrR R:=⟨fun v _=>v=u,fun _ _ _ h _=>h⟩
def PrR.any (R : World→World→Prop) : PrR R:=⟨fun _ _=>True,fun _ _ _ h _=>h⟩
def prR (L : List (PrR R)) (i : Nat) (v : Value) (w : World) : Prop:=match L[i]? with
 | some q=>q.p v w
 | none=>True
theorem prR_ext {L : List (PrR R)} {i : Nat} {v : Value} {w w' : World} (h : prR L i v w) (he : R w w') : prR L i v w':=by
 unfold prR at *
 cases hq : L[i]? with
 | none=>trivial
 | some q=>rw [hq] at h;exact q.m _ _ _ h he
def addrV (o : Oper) (a : Act) : Value:=match o.op with
 | .store _ (.tmp t) _=>a.eval (.tmp t)
 | _=>undef
def slotV (ops : Array Oper) (a : Act) (i : Nat) : Value:=match ops[i]? with
 | some o=>(match o.dst with
  | some d=>a.eval (.tmp d)
  | none=>addrV o a)
 | none=>undef
theorem fm_inj : ∀ (l : List Oper),(l.filterMap (·.dst)).Nodup → ∀ (i j : Nat) (o u : Oper) (d : Nat),l[i]? = some o→l[j]? = some u→o.dst=some d→u.dst=some d→i=j
 | [],_,i,j,o,u,d,hi,_,_,_=>by simp at hi
 | x :: l,hn,i,j,o,u,d,hi,hj,ho,hu=>by
  have htl : (l.filterMap (·.dst)).Nodup:=by
   cases hx : x.dst with
   | none=>rwa [List.filterMap_cons_none hx] at hn
   | some e=>rw [List.filterMap_cons_some hx] at hn;exact (List.nodup_cons.1 hn).2
  cases i with
  | zero =>
   cases j with
   | zero=>rfl
   | succ j =>
    exfalso
    simp at hi;subst hi
    rw [List.filterMap_cons_some ho] at hn
    exact (List.nodup_cons.1 hn).1 (List.mem_filterMap.2 ⟨u,List.mem_of_getElem? (by simpa using hj),hu⟩)
  | succ i =>
   cases j with
   | zero =>
    exfalso
    simp at hj;subst hj
    rw [List.filterMap_cons_some hu] at hn
    exact (List.nodup_cons.1 hn).1 (List.mem_filterMap.2 ⟨o,List.mem_of_getElem? (by simpa using hi),ho⟩)
   | succ j=>exact congrArg (· + 1) (fm_inj l htl i j o u d (by simpa using hi) (by simpa using hj) ho hu)
theorem putAll_fm (vals : Nat→Value) {t : Nat} : ∀ (l : List Oper) (k : Nat) (a : Act) (i : Nat) (o : Oper),(l.filterMap (·.dst)).Nodup→l[i]? = some o→o.dst=some t→t < a.tmps.size→(putAll vals l k a).tmps[t]? = some (vals (k+i))
 | [],_,_,_,_,_,h,_,_=>by simp at h
 | x :: l,k,a,0,o,hn,ho,hd,ht=>by
  simp at ho;subst ho
  rw [List.filterMap_cons_some hd] at hn
  rw [putAll,putAll_ne vals l _ _ (fun y hy e=>(List.nodup_cons.1 hn).1 (List.mem_filterMap.2 ⟨y,hy,e⟩)),hd,put_eq _ _ ht]
  rfl
 | x :: l,k,a,i+1,o,hn,ho,hd,ht=>by
  have htl : (l.filterMap (·.dst)).Nodup:=by
   cases hx : x.dst with
   | none=>rwa [List.filterMap_cons_none hx] at hn
   | some e=>rw [List.filterMap_cons_some hx] at hn;exact (List.nodup_cons.1 hn).2
  rw [putAll,putAll_fm vals l (k+1) _ i o htl (by simpa using ho) hd (by rw [put_size];exact ht),show k+1+i=k+(i+1) by omega]
def pv (o : Oper) (a : Act) (v : Value) : Value:=match o.dst with
 | some _=>v
 | none=>addrV o a
def RR (ops : Array Oper) (R : World→World→Prop) (L : List (PrR R)) (a0 : Act) (w0 : World) (listed : Array Bool) (a : Act) (w : World) : Prop :=
 listed.size=ops.size∧a.defers=a0.defers∧a.tmps.size=a0.tmps.size∧(∀ t,(∀ o ∈ ops.toList,o.dst≠some t)→a.tmps[t]? = a0.tmps[t]?)∧(∀ i,listed.getD i false=true→prR L i (slotV ops a i) w)∧R w0 w∧(∀ (i : Nat) (o : Oper),ops[i]? = some o→listed.getD i false=true → ∀ e ∈ o.after,Region.binds .any e=true→listed.getD e.on false=true)
def regOR (md : Region.Mode) (ops : Array Oper) (n : Nat) : Bool :=
 (ops.toList.all fun o=>match o.dst with | some d=>decide (d < n) | none=>true) && decide ((ops.toList.filterMap (·.dst)).Nodup)
 && ((List.range ops.size).all fun i=>((ops[i]?).map fun o=>o.after.all fun e => !Region.binds md e || decide (e.on < i)).getD true)
 && (ops.toList.all fun o=>match o.op with
  | .store _ (.tmp t) _=>(List.range ops.size).all fun k=>(((ops[k]?).map fun u=>u.dst != some t).getD true) || (o.after.any fun e=>Region.binds md e && e.on == k)
  | _=>true)
def StepR (P : Program) (md : Region.Mode) (ops : Array Oper) (Q : Exit→Act→World→Prop) (R : World→World→Prop) (L : List (PrR R)) (a0 : Act) (w0 : World) (i : Nat) (o : Oper) : Prop :=
 ∀ (a : Act) (w : World),R w0 w→(∀ j,(o.after.any fun e=>Region.binds md e && e.on == j)=true→prR L j (slotV ops a j) w) →
  (∀ t,ops.toList.all (fun o=>o.dst != some t)=true→a.eval (.tmp t)=a0.eval (.tmp t)) →
  (Region.wanted o (yielded ops a.tmps)=true ∧ ∀ K : Act→World→Prop,(∀ v w',prR L i (pv o a v) w'→R w w'→K (a.put o.dst v) w')→o.wp P a w K Q)∨(Region.wanted o (yielded ops a.tmps)=false∧prR L i (pv o a undef) w)
theorem wp_region_rel {id : Nat} {a0 : Act} {w0 : World} (hr : ∀ w,R w w) (ht : ∀ a b c,R a b→R b c→R a c) (L : List (PrR R)) (hm : P.follows .mixedOrders=true) (hok : regOR .any ops a0.tmps.size=true)
  (hs : AllSteps (StepR P .any ops Q R L a0 w0.drew) ops.toList 0)
  (he : ∀ (vals : Nat→Value) (A : Act) (w : World),A=putAll vals ops.toList 0 a0→R w0.drew w→(∀ i,i < ops.size→prR L i (vals i) w)→(∀ i,vals i=slotV ops A i)→Q .normal A w) :
  (Code.region id ops true).wp P Q a0 w0:=by
 unfold regOR at hok
 simp only [Bool.and_eq_true,decide_eq_true_eq] at hok
 obtain ⟨⟨⟨h1,h2⟩,h3⟩,h4⟩:=hok
 have hdst : ∀ (i : Nat) (o : Oper) (d : Nat),ops[i]? = some o→o.dst=some d→d < a0.tmps.size:=by
  intro i o d ho hd
  have hm' : o ∈ ops.toList:=by rw [Array.mem_toList_iff];exact Array.mem_of_getElem? ho
  have:=List.all_eq_true.1 h1 o hm'
  rw [hd] at this
  simpa using this
 have hafter : ∀ (i : Nat) (o : Oper),ops[i]? = some o → ∀ e ∈ o.after,Region.binds .any e=true→e.on < i:=by
  intro i o ho e hea hb
  have hi:=(Array.getElem?_eq_some_iff.1 ho).1
  have:=List.all_eq_true.1 h3 i (List.mem_range.2 hi)
  rw [ho] at this
  simp only [Option.map_some,Option.getD_some,Array.all_eq_true_iff_forall_mem] at this
  have:=this e hea
  simpa [hb] using this
 have hinj : ∀ (i j : Nat) (o u : Oper) (d : Nat),ops[i]? = some o→ops[j]? = some u→o.dst=some d→u.dst=some d→i=j:=fun i j o u d hi hj ho hu =>
  fm_inj ops.toList h2 i j o u d (by rw [Array.getElem?_toList];exact hi) (by rw [Array.getElem?_toList];exact hj) ho hu
 refine wp_region_any hm (wpAny_inv (I:=RR ops R L a0 w0.drew) ?_ ?_ _ _ _ _ (by unfold unl;refine Nat.le_trans (List.length_filter_le _ _) (by simp)) ?_)
 ·intro listed a w i ⟨r1,r2,r3,r4,r5,r6,r7⟩ hi
  obtain ⟨g1,o,ho,g2⟩:=mem_ready.1 hi
  have hst:=AllSteps.get (i:=i) hs (by rw [Array.getElem?_toList];exact ho)
  rw [Nat.zero_add] at hst
  have hput : ∀ v w',prR L i (pv o a v) w'→R w w'→RR ops R L a0 w0.drew (listed.setIfInBounds i true) (a.put o.dst v) w':=by
   intro v w' hv hE
   refine ⟨by simpa using r1,by rw [put_def];exact r2,by rw [put_size];exact r3,fun t ht => ?_,fun j hj => ?_,ht _ _ _ r6 hE,fun j u hu hj e he1 he2 => ?_⟩
   ·rw [put_ne _ _ (ht o (by rw [Array.mem_toList_iff];exact Array.mem_of_getElem? ho))]
    exact r4 t ht
   ·by_cases e : j=i
    ·subst e
     unfold slotV
     unfold pv at hv
     rw [ho]
     cases hd : o.dst with
     | none=>rw [hd] at hv;simp only [hd];exact hv
     | some d =>
      rw [hd] at hv
      simp only [hd]
      show prR L j ((a.put (some d) v).eval (.tmp d)) w'
      rw [eval_tmp,put_eq _ _ (by rw [r3];exact hdst j o d ho hd)]
      exact hv
    ·rw [getD_set_ne false (fun e'=>e e'.symm)] at hj
     have h5:=prR_ext (r5 j hj) hE
     have : slotV ops (a.put o.dst v) j=slotV ops a j:=by
      unfold slotV
      cases hu : ops[j]? with
      | none=>rfl
      | some u =>
       cases hd' : u.dst with
       | none =>
        simp only [hd']
        unfold addrV
        split
        ·rename_i t x hop
         have hne : o.dst≠some t:=by
          intro ho2
          have hmu : u ∈ ops.toList:=by rw [Array.mem_toList_iff];exact Array.mem_of_getElem? hu
          have h6:=List.all_eq_true.1 h4 u hmu
          rw [hop] at h6
          have h7:=List.all_eq_true.1 h6 i (List.mem_range.2 (Array.getElem?_eq_some_iff.1 ho).1)
          rw [ho] at h7
          simp only [Option.map_some,Option.getD_some,Bool.or_eq_true,bne_iff_ne,ne_eq,ho2,not_true_eq_false,false_or] at h7
          obtain ⟨e3,he3,he4⟩:=Array.any_eq_true'.1 h7
          simp only [Bool.and_eq_true,beq_iff_eq] at he4
          have h8:=r7 j u hu hj e3 he3 he4.1
          rw [he4.2] at h8
          have hsz : i < listed.size:=by rw [r1];exact (Array.getElem?_eq_some_iff.1 ho).1
          simp [hsz] at h8 g1
          rw [g1] at h8
          cases h8
         show (a.put o.dst v).eval (.tmp t)=a.eval (.tmp t)
         rw [eval_tmp,eval_tmp,put_ne _ _ hne]
        ·rfl
       | some d' =>
        simp only [hd']
        show (a.put o.dst v).eval (.tmp d')=a.eval (.tmp d')
        rw [eval_tmp,eval_tmp,put_ne _ _ (fun e'=>e (hinj j i u o d' hu ho hd' e'))]
     rw [this]
     exact h5
   ·have hsz : i < listed.size:=by rw [r1];exact (Array.getElem?_eq_some_iff.1 ho).1
    have key : listed.getD e.on false=true:=by
     by_cases e' : j=i
     ·subst e'
      rw [ho] at hu
      cases hu
      exact g2 e he1 he2
     ·rw [getD_set_ne false (fun h=>e' h.symm)] at hj
      exact r7 j u hu hj e he1 he2
    by_cases e2 : e.on=i
    ·rw [e2];simp [hsz]
    ·rw [getD_set_ne false (fun h=>e2 h.symm)]
     exact key
  have hdep:=hst a w r6 (fun j hj=>by
   obtain ⟨e,he1,he2⟩:=Array.any_eq_true'.1 hj
   simp only [Bool.and_eq_true,beq_iff_eq] at he2
   have:=g2 e he1 he2.1
   rw [he2.2] at this
   exact r5 j this) (fun t ht=>by
   have:=r4 t (fun o ho'=>by simpa using List.all_eq_true.1 ht o ho')
   rw [eval_tmp,eval_tmp,this])
  unfold wpOp
  simp only [ho]
  rcases hdep with ⟨hw,h⟩ | ⟨hw,h⟩
  ·rw [if_pos hw]
   exact .inl (h _ hput)
  ·rw [if_neg (by rw [hw];simp)]
   exact hput _ _ h (hr _)
 ·intro listed a w ⟨r1,r2,r3,r4,r5,r6,_r7⟩ hrd
  have hall : ∀ n i,i < n→i < ops.size→listed.getD i false=true:=by
   intro n
   induction n with
   | zero=>intro i h;omega
   | succ n ih =>
    intro i hi his
    cases hli : listed.getD i true
    ·exfalso
     obtain ⟨o,ho⟩ : ∃ o,ops[i]? = some o:=⟨ops[i],by simp [his]⟩
     have : i ∈ Region.ready .any ops listed:=mem_ready.2 ⟨hli,o,ho,fun e he1 he2=>by
      have:=hafter i o ho e he1 he2
      exact ih _ (by omega) (by omega)⟩
     rw [hrd] at this
     cases this
    ·have hsz : i < listed.size:=by rw [r1];exact his
     simpa [hsz] using hli
  have : putAll (fun i=>slotV ops a i) ops.toList 0 a0=a:=by
   have e1 : (putAll (fun i=>slotV ops a i) ops.toList 0 a0).tmps=a.tmps:=by
    apply Array.ext_getElem?
    intro t
    by_cases hx : ∃ o ∈ ops.toList,o.dst=some t
    ·obtain ⟨o,hom,hd⟩:=hx
     obtain ⟨i,hi⟩:=List.mem_iff_getElem?.1 hom
     have ho : ops[i]? = some o:=by rw [← Array.getElem?_toList];exact hi
     have hdn:=hdst i o t ho hd
     rw [putAll_fm _ ops.toList 0 a0 i o h2 hi hd hdn,Nat.zero_add]
     unfold slotV
     rw [ho]
     simp only [hd]
     show some (a.eval (.tmp t))=_
     rw [eval_tmp,Array.getElem?_eq_getElem (by rw [r3];exact hdn)]
     rfl
    ·have hx' : ∀ o ∈ ops.toList,o.dst≠some t:=fun o h1 h2=>hx ⟨o,h1,h2⟩
     rw [putAll_ne _ _ _ _ hx',r4 t hx']
   have e2:=putAll_def (fun i=>slotV ops a i) ops.toList 0 a0
   rw [← r2] at e2
   cases a
   cases hp : putAll (fun i=>_) ops.toList 0 a0
   simp_all
  exact he (fun i=>slotV ops a i) a w this.symm r6 (fun i hi=>r5 i (hall _ i (Nat.lt_succ_self i) hi)) (fun i=>rfl)
 ·refine ⟨by simp,rfl,rfl,fun _ _=>rfl,fun i hi => ?_,hr _,fun i o _ hi => ?_⟩ <;> (exfalso;by_cases h : i < ops.size <;> simp [h] at hi)
end
end Go.Proofs.YtnplphcnagooeaaGreatDoor

/- Worlds that differ in new blocks and in the contents of fresh variables of one type. -/
namespace Go.Proofs.YtnplphcnagooeaaGreatDoor
set_option maxRecDepth 100000
open Go.RowKit
def BoxT (T : TypeId) (n : Nat) (w : World) (b : Nat) : Prop := ∃ vs : Array Value,vs.size=n∧Box w b T vs
structure BxR (N : Nat) (T : TypeId) (n : Nat) (w w' : World) : Prop where
 os : w'.os=w.os
 tape : w'.tape=w.tape
 output : w'.output=w.output
 size : w.heap.size≤w'.heap.size
 block : ∀ b,b < w.heap.size→w'.heap[b]? = w.heap[b]? ∨ (N≤b∧BoxT T n w b∧BoxT T n w' b)
section
variable {N n : Nat} {T : TypeId} {w w' w'' : World}
theorem BxR.refl (w : World) : BxR N T n w w:=⟨rfl,rfl,rfl,Nat.le_refl _,fun _ _ => .inl rfl⟩
theorem BoxT.lt {b : Nat} (h : BoxT T n w b) : b < w.heap.size:=by
 obtain ⟨vs,-,h⟩:=h
 exact h.lt
theorem BxR.boxT {b : Nat} (h : BxR N T n w w') (hb : BoxT T n w b) : BoxT T n w' b:=by
 rcases h.block b hb.lt with h1 | ⟨-,-,h1⟩
 ·obtain ⟨vs,h2,h3⟩:=hb
  exact ⟨vs,h2,h1.trans h3⟩
 ·exact h1
theorem BxR.trans (h : BxR N T n w w') (k : BxR N T n w' w'') : BxR N T n w w'':=by
 refine ⟨k.os.trans h.os,k.tape.trans h.tape,k.output.trans h.output,Nat.le_trans h.size k.size,fun b hb => ?_⟩
 rcases k.block b (Nat.lt_of_lt_of_le hb h.size) with k1 | ⟨k1,k2,k3⟩
 ·rcases h.block b hb with h1 | ⟨h1,h2,h3⟩
  ·exact .inl (k1.trans h1)
  ·refine .inr ⟨h1,h2,?_⟩
   obtain ⟨vs,e1,e2⟩:=h3
   exact ⟨vs,e1,k1.trans e2⟩
 ·rcases h.block b hb with h1 | ⟨h1,h2,h3⟩
  ·refine .inr ⟨k1,?_,k3⟩
   obtain ⟨vs,e1,e2⟩:=k2
   exact ⟨vs,e1,h1.symm.trans e2⟩
  ·exact .inr ⟨h1,h2,k3⟩
theorem BxR.of_ext (h : Ext w w') : BxR N T n w w':=⟨h.os,h.tape,h.output,h.size,fun _ hb => .inl (h.blk hb)⟩
theorem BxR.to_ext (h : BxR N T n w w') (hN : w.heap.size≤N) : Ext w w':=⟨h.os,h.tape,h.output,h.size,fun b hb=>by rcases h.block b hb with h1 | ⟨h1,-,-⟩;exact h1;omega⟩
theorem BxR.set {b : Nat} (hb : BoxT T n w b) (hN : N≤b) (j : Nat) (u : Value) : BxR N T n w (w.setCell ⟨b,j,none⟩ u):=by
 have hE:=ExtBut.setCell w ⟨b,j,none⟩ u
 refine ⟨hE.os,hE.tape,hE.output,hE.size,fun c hc => ?_⟩
 by_cases e : c=b
 ·subst e
  obtain ⟨vs,h1,h2⟩:=hb
  exact .inr ⟨hN,⟨vs,h1,h2⟩,⟨_,by simpa using h1,h2.set j u⟩⟩
 ·exact .inl (hE.block c hc e)
theorem Sl.bxr {k m : Nat} {v : Value} {xs : List Value} (h : Sl w k v m xs) (hx : n < xs.length) (hR : BxR N T n w w') : Sl w' k v m xs:=by
 obtain ⟨h1,a,cap,h2,h3,h4,h5,h6⟩:=h
 obtain ⟨b,off,rfl,hc0⟩:=h6 n _ (List.getElem?_eq_getElem hx)
 have hb:=World.block_lt_of_cell? _ _ hc0
 have hsame : w'.heap[b]? = w.heap[b]? := by
  rcases hR.block b hb with h7 | ⟨-,⟨vs,e1,e2⟩,-⟩
  ·exact h7
  ·exfalso
   rw [e2.cell,Array.getElem?_eq_none (by omega)] at hc0
   cases hc0
 refine ⟨h1,_,cap,h2,h3,h4,h5,fun j u hj => ?_⟩
 obtain ⟨b',off',e,hc⟩:=h6 j u hj
 cases e
 exact ⟨b,off,rfl,by rw [← hc];exact World.cell?_of_block hsame⟩
end
structure BxX (N : Nat) (T : TypeId) (n : Nat) (X : World→Array Value→Prop) (w w' : World) : Prop where
 os : w'.os=w.os
 tape : w'.tape=w.tape
 output : w'.output=w.output
 size : w.heap.size≤w'.heap.size
 block : ∀ b,b < w.heap.size→w'.heap[b]? = w.heap[b]? ∨ (N≤b∧BoxT T n w b ∧ ∃ vs,vs.size=n∧Box w' b T vs∧X w' vs)
section
variable {N n : Nat} {T : TypeId} {X : World→Array Value→Prop} {w w' w'' : World}
theorem BxX.refl (w : World) : BxX N T n X w w:=⟨rfl,rfl,rfl,Nat.le_refl _,fun _ _ => .inl rfl⟩
theorem BxX.rel (h : BxX N T n X w w') : BxR N T n w w':=⟨h.os,h.tape,h.output,h.size,fun b hb=>(h.block b hb).imp id fun ⟨h1,h2,vs,h3,h4,_⟩=>⟨h1,h2,vs,h3,h4⟩⟩
theorem BxX.trans (hX : ∀ w w' vs,X w vs→BxR N T n w w'→X w' vs) (h : BxX N T n X w w') (k : BxX N T n X w' w'') : BxX N T n X w w'':=by
 refine ⟨k.os.trans h.os,k.tape.trans h.tape,k.output.trans h.output,Nat.le_trans h.size k.size,fun b hb => ?_⟩
 rcases k.block b (Nat.lt_of_lt_of_le hb h.size) with k1 | ⟨k1,k2,k3⟩
 ·rcases h.block b hb with h1 | ⟨h1,h2,vs,h3,h4,h5⟩
  ·exact .inl (k1.trans h1)
  ·exact .inr ⟨h1,h2,vs,h3,k1.trans h4,hX _ _ _ h5 k.rel⟩
 ·rcases h.block b hb with h1 | ⟨h1,h2,-⟩
  ·refine .inr ⟨k1,?_,k3⟩
   obtain ⟨vs,e1,e2⟩:=k2
   exact ⟨vs,e1,h1.symm.trans e2⟩
  ·exact .inr ⟨h1,h2,k3⟩
theorem BxX.of_ext (h : Ext w w') : BxX N T n X w w':=⟨h.os,h.tape,h.output,h.size,fun _ hb => .inl (h.blk hb)⟩
theorem BxX.to_ext (h : BxX N T n X w w') (hN : w.heap.size≤N) : Ext w w':=h.rel.to_ext hN
theorem BxX.but {b : Nat} (hE : ExtBut (· = b) w w') (hb : BoxT T n w b) (hN : N≤b) {vs : Array Value} (hs : vs.size=n) (hB : Box w' b T vs) (hX : X w' vs) : BxX N T n X w w' :=
 ⟨hE.os,hE.tape,hE.output,hE.size,fun c hc=>by
  by_cases e : c=b
  ·subst e;exact .inr ⟨hN,hb,vs,hs,hB,hX⟩
  ·exact .inl (hE.block c hc e)⟩
def PrR.up {N n : Nat} {T : TypeId} {X : World→Array Value→Prop} (q : PrR (BxR N T n)) : PrR (BxX N T n X):=⟨q.p,fun v w w' h hR=>q.m v w w' h hR.rel⟩
end
def PrRB (N : Nat) (T : TypeId) (n : Nat) : PrR (BxR N T n):=⟨fun v w => ∃ b,v = .pointer (some ⟨b,0,none⟩)∧N≤b∧BoxT T n w b,fun _ _ _ ⟨b,h1,h2,h3⟩ hR=>⟨b,h1,h2,hR.boxT h3⟩⟩
end Go.Proofs.YtnplphcnagooeaaGreatDoor

/- Rows and tables that a call owns stay so where fresh variables of another type change; append to an empty literal. -/
namespace Go.Proofs.YtnplphcnagooeaaGreatDoor
set_option maxRecDepth 100000
open Go.RowKit
theorem Own.bxr {N M n' : Nat} {T : TypeId} {w w' : World} {B : Nat} {e k n : Nat} {v : Value} {xs : List Value} (h : Own w B e k v n xs) (hne : e≠T) (hR : BxR N T M w w') : Own w' B e k v n xs:=by
 refine ⟨h.1,?_⟩
 rcases h.2 with h2 | ⟨g,cap,cur,rfl,hg,hh,r⟩
 ·exact Or.inl h2
 ·refine Or.inr ⟨g,cap,cur,rfl,hg,?_,r⟩
  rcases hR.block g (Array.getElem?_eq_some_iff.1 hh).1 with h1 | ⟨-,⟨vs,-,h1⟩,-⟩
  ·exact h1.trans hh
  ·exfalso
   have:=hh.symm.trans (show w.heap[g]? = _ from h1)
   simp only [Option.some.injEq,Obj.cells.injEq] at this
   exact hne this.2.1
theorem OwnS.bxr {N M : Nat} {w w' : World} {B : Nat} {v : Value} {vs : List Value} {l : List (List Item)} (h : OwnS w B v vs l) (hR : BxR N 68 M w w') : OwnS w' B v vs l :=
 ⟨Own.bxr (n':=0) h.outer (by decide) hR,All2.iff.2 ⟨(All2.iff.1 h.inner).1,fun i s a hs ha=>Own.bxr (n':=0) ((All2.iff.1 h.inner).2 i s a hs ha) (by decide) hR⟩,h.apart,h.far⟩
theorem OM.bxr {N M : Nat} {T : TypeId} {w w' : World} {B : Nat} {v : Value} {vs : List Value} {l : List Alloc} (h : OM w B v vs l) (h1 : 74≠T) (h2 : 78≠T) (hR : BxR N T M w w') : OM w' B v vs l :=
 ⟨Own.bxr (n':=0) h.outer h1 hR,All2.iff.2 ⟨(All2.iff.1 h.inner).1,fun i s a hs ha=>Own.bxr (n':=0) ((All2.iff.1 h.inner).2 i s a hs ha) h2 hR⟩,h.apart,h.far⟩
theorem run_append_lit0 {P : Program} {w : World} {B g : Nat} {t tx ty e e' : TypeId} {i : TypeInfo} {z : Value} {k : Nat} {x : Value} {m : Nat} {ys : List Value}
  (ht : P.underlying t=some (.slice e)) (htx : P.underlying tx=some (.slice e')) (hi : P.info? e=some i) (hz : i.zero=some z) (hik : i.size=k) (hzk : z.cells.size=k)
  (hown : Own w B e k (.slice (some ⟨g,0,none⟩) 0 0) 0 []) (hx : Sl w k x m ys) (h1 : ∀ u ∈ ys,u.oneCell'=true) (h63 : m≤maxLen) (hbytes : m * i.bytes≤140737488355328) (hB : B≤w.heap.size) :
  ∃ v' w',(Builtin.append_ #[t,tx] ty #[.slice (some ⟨g,0,none⟩) 0 0,x]).run P w = .ok v' w'∧Own w' B e k v' m ys∧Ext w w':=by
 subst hik
 have hsrc:=hx.src htx h1
 have hlen : ys.length=m * i.size:=hx.len
 by_cases hm : m=0
 ·subst hm
  have hys:=hx.zero
  subst hys
  refine ⟨.slice (some ⟨g,0,none⟩) 0 0,w,?_,hown,Ext.refl _⟩
  rcases hsrc.kind with ⟨e',hk⟩ | hk <;> simp [Builtin.append_,run_underlying ht,run_underlying hk,sizeOf,typeInfo,hi,hsrc.len,hsrc.cells,storeCells]
 ·have hold:=((hown.sl.ext (Ext.refl w).drew).firstCells (P:=P))
  have hr:=run_append_grow_src (P:=P) w t tx ty e i z ht hi hz (some ⟨g,0,none⟩) 0 0 [] hold x m ys hsrc (by omega) (by simp only [maxLen] at h63;omega) (growslice_fits (by omega) (by simpa using hbytes))
  have hge:=grownCap_ge w (0+m) 0 e
  have hcm : grownCap w (0+m) 0 e≤maxLen:=grownCap_le_maxLen w (0+m) 0 e (by omega)
  rw [Nat.zero_add] at hge hcm hr
  refine ⟨_,_,hr,⟨hlen,.inr ⟨w.heap.size,_,_,rfl,hB,heap_alloc_new w.drew _,hge,hcm,?_,?_⟩⟩,(Ext.refl w).drew.alloc _⟩
  ·rw [List.nil_append,Array.size_append,List.size_toArray,size_zeroCells,hzk,hlen,← Nat.add_mul]
   congr 1
   omega
  ·rw [List.nil_append,Array.toList_append,← hlen]
   exact List.take_left
theorem wp_append_lit0 {P : Program} {w : World} {o : Oper} {a : Act} {K : Act→World→Prop} {Q : Exit→Act→World→Prop} (s x : Operand) (t tx : TypeId)
  (ho : o.op = .call { callee := .builtin .append,args:=#[s,x],argTypes:=#[t,tx] })
  {u : Value} {B g : Nat} (hs : a.eval s = .slice (some ⟨g,0,none⟩) 0 0) (hu : a.eval x=u) {e e' : TypeId} {i : TypeInfo} {z : Value} {k : Nat} {m : Nat} {ys : List Value}
  (ht : P.underlying t=some (.slice e)) (htx : P.underlying tx=some (.slice e')) (hi : P.info? e=some i) (hz : i.zero=some z) (hik : i.size=k) (hzk : z.cells.size=k)
  (hown : Own w B e k (.slice (some ⟨g,0,none⟩) 0 0) 0 []) (hx : Sl w k u m ys) (h1 : ∀ u ∈ ys,u.oneCell'=true) (h63 : m≤maxLen) (hbytes : m * i.bytes≤140737488355328) (hB : B≤w.heap.size)
  (h : ∀ v' w',Own w' B e k v' m ys→Ext w w'→K (a.put o.dst v') w') : o.wp P a w K Q:=by
 obtain ⟨v',w',hr,h2,h3⟩:=run_append_lit0 (P:=P) (ty:=o.type) ht htx hi hz hik hzk hown hx h1 h63 hbytes hB
 unfold Oper.wp execOp
 simp only [ho,resolve,invoke,builtin,Sem.run_bind,Sem.run_pure,Result.andThen_ok,List.map_toArray,List.map_cons,List.map_nil,hs,hu,hr]
 exact h v' w' h2 h3
end Go.Proofs.YtnplphcnagooeaaGreatDoor

/- The region in which stacks are made and laid into a variable. -/
namespace Go.Proofs.YtnplphcnagooeaaGreatDoor
set_option maxRecDepth 100000
open Go.RowKit
def X35 (N : Nat) (x : Stk) (w : World) (vs : Array Value) : Prop := ∃ a c us,vs=#[.int .i64 x.num,.slice a x.cells.length c]∧OwnS w N (.slice a x.cells.length c) us x.cells
theorem X35_bxr {N M : Nat} {x : Stk} : ∀ w w' vs,X35 N x w vs→BxR M 68 2 w w'→X35 N x w' vs:=fun _ _ _ ⟨a,c,us,h1,h2⟩ hR=>⟨a,c,us,h1,h2.bxr hR⟩
def PrRK (N : Nat) (x : Stk) (f : Option Addr→Nat→Value) : PrR (BxX N 68 2 (X35 N x)):=⟨fun v w => ∃ a c us,v=f a c∧OwnS w N (.slice a x.cells.length c) us x.cells,fun _ _ _ ⟨a,c,us,h1,h2⟩ hR=>⟨a,c,us,h1,h2.bxr hR.rel⟩⟩
def PrRT (N : Nat) (x : Stk) : PrR (BxX N 68 2 (X35 N x)):=⟨fun v w => ∃ b a c us,v = .pointer (some ⟨b,0,none⟩)∧N≤b∧Box w b 68 #[.int .i64 x.num,.slice a x.cells.length c]∧OwnS w N (.slice a x.cells.length c) us x.cells,fun _ w w' ⟨b,a,c,us,h1,hN,h2,h3⟩ hR=>by
 rcases hR.block b h2.lt with h4 | ⟨-,-,vs,-,h6,a',c',us',rfl,h7⟩
 ·exact ⟨b,a,c,us,h1,hN,h4.trans h2,h3.bxr hR.rel⟩
 ·exact ⟨b,a',c',us',h1,hN,h6,h7⟩⟩
end Go.Proofs.YtnplphcnagooeaaGreatDoor

/- Contracts: monitor.at (the search for the stacks of an allocation). -/
namespace Go.Proofs.YtnplphcnagooeaaGreatDoor
set_option maxRecDepth 100000
open Go.RowKit
def ixK : Option Nat→Int
 | none => -1
 | some i=>(i : Int)
def numK (n : Int) (x : Stk) : Bool:=x.num == n
theorem kIdxHit {p : Stk→Bool} {l : List Stk} {k : Nat} {x : Stk} (h : (l.take k).any p=false) (hx : l[k]? = some x) (hp : p x=true) : l.findIdx? p=some k:=by
 rw [List.findIdx?_eq_some_iff_getElem]
 obtain ⟨hk,rfl⟩:=List.getElem?_eq_some_iff.1 hx
 refine ⟨hk,hp,fun j hj => ?_⟩
 simp only [List.any_eq_false] at h
 have:=h l[j] (by rw [List.mem_iff_getElem?];exact ⟨j,by rw [List.getElem?_take,if_pos hj];simp⟩)
 simpa using this
theorem kIdxMiss {p : Stk→Bool} {l : List Stk} (h : l.any p=false) : l.findIdx? p=none:=by
 rw [List.findIdx?_eq_none_iff]
 simpa [List.any_eq_false] using h
def PredN (g : Nat) (cap : Array Value) (W : World) (p : Stk→Bool) : Prop :=
 ∀ (x : Stk) (s : Value) (w : World),Ext W w→Calls Tryz.prog g (#[.agg #[.int .i64 x.num,s]] ++ cap) w fun e w'=>e = .returned (.bool (p x))∧Ext w w'
theorem callFunc_at1 (args : Array Value) (w : World) : (callFunc 83 args).run Tryz.prog w = .ok (.enter 83 args) w:=by kernel_rfl
set_option maxHeartbeats 400000 in
theorem monitor_at1 (n : Int) (B : Nat) (W : World) (hc : W.cell? ⟨B,0,none⟩=some (.int .i64 n)) : PredN 83 #[.pointer (some ⟨B,0,none⟩)] W (numK n):=by
 intro x s w hW
 obtain ⟨num,l⟩:=x
 have hcw:=hW.cell hc
 have hB:=World.block_lt_of_cell? _ _ hcw
 have hE:=(Ext.refl w).alloc (.cells #[.int .i64 num,s] 68)
 clear hc hW
 show Calls Tryz.prog 83 #[.agg #[.int .i64 num,s],.pointer (some ⟨B,0,none⟩)] w _
 go_enter Tryz.func83,Tryz.ntmps83
 go_wp2
 go_ret
 exact ⟨rfl,hE⟩
set_option maxHeartbeats 800000 in
theorem indexFunc_num {g : Nat} {cap : Array Value} {p : Stk→Bool} {l : List Stk} {v : Value} {w : World} (hg : ∀ args w,(callFunc g args).run Tryz.prog w = .ok (.enter g args) w)
  (hp : PredN g cap w p) (hl : Kts w v l) : Calls Tryz.prog 82 #[v,.func (.func g) #[] cap] w fun e w'=>e = .returned (.int .i64 (ixK (l.findIdx? p)))∧Ext w w':=by
 obtain ⟨a,cp,rfl,hlc,hcm,-⟩:=hl.form
 unfold maxLen at hcm
 have hL:=Lib.hid hl
 clear hl
 go_enter Tryz.func82,Tryz.ntmps82
 go_wp2
 go_loopw [8] (fun i wr => ∃ k : Nat,k≤l.length∧i = .int .i64 k∧Ext w wr∧Hid ((l.take k).any p=false)) (fun i _=>l.length - (intOf i).toNat)
 case atStart=>exact ⟨0,Nat.zero_le _,rfl,Ext.refl _,by simp [Hid]⟩
 case round =>
  obtain ⟨k,hk,rfl,hE,hN⟩:=hrel
  by_cases hlt : k < l.length
  ·obtain ⟨x,hx⟩ : ∃ x,l[k]? = some x:=⟨l[k],by simp [hlt]⟩
   obtain ⟨b,off,sv,rfl,hbb,d0,d1,hcl⟩:=(hL.out.ext hE).cell hx
   have hX:=Lib.hid hx
   clear hx
   replace hcl:=Lib.hid hcl
   cases hpx : p x
   all_goals
    have hP:=Lib.hid hpx
    clear hpx
    go_wp2_with fail
    refine (hp x sv wr hE).mono ?_
    rintro e w1 ⟨rfl,hE1⟩
    have hpx:=hP.out
    go_wp2
   ·go_roundw
    case rel=>exact ⟨k+1,by omega,by go_num,hE.trans hE1,sany_take_succ hN.out hX.out hP.out⟩
    case measure=>simp [intOf];omega
   ·go_ret
    exact ⟨by rw [kIdxHit hN.out hX.out hP.out];rfl,hE.trans hE1⟩
  ·have hkl : k=l.length:=by omega
   subst hkl
   have hN':=hN.out
   rw [List.take_length] at hN'
   have hg:=Lib.hid (kIdxMiss hN')
   clear hN'
   go_wp2
   go_ret
   exact ⟨by rw [hg.out];rfl,hE⟩
set_option maxHeartbeats 800000 in
theorem monitor_at {m : Mon} {sa ss sr : Value} {w : World} (n : Int) (hok : MonOk m) (hK : Kts w ss m.stks) :
  Calls Tryz.prog 39 #[.agg #[sa,.int .i64 m.mem.next,ss,sr,.int .i64 m.tag,.int .i64 m.call],.int .i64 n] w fun e w'=>e = .returned (.int .i64 (ixK (atNum m.mem.al n)))∧Ext w w':=by
 have hE0:=((Ext.refl w).alloc (.cells #[sa,.int .i64 m.mem.next,ss,sr,.int .i64 m.tag,.int .i64 m.call] 28)).alloc (.cells #[.int .i64 n] 3)
 have hc : ((w.alloc (.cells #[sa,.int .i64 m.mem.next,ss,sr,.int .i64 m.tag,.int .i64 m.call] 28)).alloc (.cells #[.int .i64 n] 3)).cell? ⟨w.heap.size+1,0,none⟩=some (.int .i64 n):=by simp
 have hI:=Lib.hid (indexFunc_num callFunc_at1 (monitor_at1 n (w.heap.size+1) _ hc) (hK.ext hE0))
 have hat:=Lib.hid (hok.at n)
 have hmf : ∀ (fn : Fn) (first cap : Array Value) (w : World),(Instr.makeFunc fn first cap).run Tryz.prog w = .ok (.func fn first cap) w:=fun _ _ _ _=>rfl
 obtain ⟨a,cp,rfl,-⟩:=hK.form
 clear hK hc hok
 go_enter Tryz.func39,Tryz.ntmps39
 go_wp2_with fail
 refine hI.out.mono ?_
 rintro e w1 ⟨rfl,hE1⟩
 go_wp2
 go_ret
 exact ⟨by show _=Ending.returned (.int .i64 (ixK (atNum m.mem.al n)));rw [← hat.out];rfl,hE0.trans hE1⟩
end Go.Proofs.YtnplphcnagooeaaGreatDoor
