/- Several texts in one: RegInr, RegSt, BoxR, RegBx, BoxS, RfA, RfB, TwA, StpA, RfD, ReadI, ReadO, Law35A. -/
import Derived.Test.YtoanoodfacmieaaGreatDoorQ12
import Derived.Test.YtoanoodfacmieaaGreatDoorQ01
import Derived.Test.YtoanoodfacmieaaGreatDoorQ07
import Derived.Test.YtoanoodfacmieaaGreatDoorQ06
import Derived.BigQuiet
import Derived.Deep.QuietTactic
import Derived.Test.YtoanoodfacmieaaGreatDoorQ02
import Derived.Test.YtoanoodfacmieaaGreatDoorQ14
import Derived.Test.YtoanoodfacmieaaGreatDoorQ17
import Derived.Laws.BitsLemmas
import Derived.Test.YtoanoodfacmieaaGreatDoorQ04
import Derived.Test.YtoanoodfacmieaaGreatDoorQ10
/- A region that draws its order, by what each operation leaves, under a relation of one's own between worlds (stores into fresh boxes too). -/
namespace Go.Proofs.YtoanoodfacmieaaGreatDoor
set_option maxRecDepth 100000
open Go
section
variable {P : Program} {ops : Array Oper} {Q : Exit→Act→World→Prop} {md : Region.Mode} {R : World→World→Prop}
structure PrR (R : World→World→Prop) where
 p : Value→World→Prop
 m : ∀ v w w',p v w→R w w'→p v w'
def PrR.eq (R : World→World→Prop) (u : Value) : PrR R:=⟨fun v _=>v=u,fun _ _ _ h _=>h⟩
def PrR.any (R : World→World→Prop) : PrR R:=⟨fun _ _=>True,fun _ _ _ h _=>h⟩
def prR (L : List (PrR R)) (i : Nat) (v : Value) (w : World) : Prop:=match L[i]? with
 | some q=>q.p v w
 | none=>True
theorem prR_ext {L : List (PrR R)} {i : Nat} {v : Value} {w w' : World} (h : prR L i v w) (he : R w w') : prR L i v w':=by
 unfold prR at *
 cases hq : L[i]? with
 | none=>trivial
 | some q=>rw [hq] at h;exact q.m _ _ _ h he
def addrV (o : Oper) (a : Act) : Value:=match o.op with
 | .store _ (.tmp t) _=>a.eval (.tmp t)
 | _=>undef
def slotV (ops : Array Oper) (a : Act) (i : Nat) : Value:=match ops[i]? with
 | some o=>(match o.dst with
  | some d=>a.eval (.tmp d)
  | none=>addrV o a)
 | none=>undef
theorem fm_inj : ∀ (l : List Oper),(l.filterMap (·.dst)).Nodup → ∀ (i j : Nat) (o u : Oper) (d : Nat),l[i]? = some o→l[j]? = some u→o.dst=some d→u.dst=some d→i=j
 | [],_,i,j,o,u,d,hi,_,_,_=>by simp at hi
 | x :: l,hn,i,j,o,u,d,hi,hj,ho,hu=>by
  have htl : (l.filterMap (·.dst)).Nodup:=by
   cases hx : x.dst with
   | none=>rwa [List.filterMap_cons_none hx] at hn
   | some e=>rw [List.filterMap_cons_some hx] at hn;exact (List.nodup_cons.1 hn).2
  cases i with
  | zero =>
   cases j with
   | zero=>rfl
   | succ j =>
    exfalso
    simp at hi;subst hi
    rw [List.filterMap_cons_some ho] at hn
    exact (List.nodup_cons.1 hn).1 (List.mem_filterMap.2 ⟨u,List.mem_of_getElem? (by simpa using hj),hu⟩)
  | succ i =>
   cases j with
   | zero =>
    exfalso
    simp at hj;subst hj
    rw [List.filterMap_cons_some hu] at hn
    exact (List.nodup_cons.1 hn).1 (List.mem_filterMap.2 ⟨o,List.mem_of_getElem? (by simpa using hi),ho⟩)
   | succ j=>exact congrArg (· + 1) (fm_inj l htl i j o u d (by simpa using hi) (by simpa using hj) ho hu)
theorem putAll_fm (vals : Nat→Value) {t : Nat} : ∀ (l : List Oper) (k : Nat) (a : Act) (i : Nat) (o : Oper),(l.filterMap (·.dst)).Nodup→l[i]? = some o→o.dst=some t→t < a.tmps.size→(putAll vals l k a).tmps[t]? = some (vals (k+i))
 | [],_,_,_,_,_,h,_,_=>by simp at h
 | x :: l,k,a,0,o,hn,ho,hd,ht=>by
  simp at ho;subst ho
  rw [List.filterMap_cons_some hd] at hn
  rw [putAll,putAll_ne vals l _ _ (fun y hy e=>(List.nodup_cons.1 hn).1 (List.mem_filterMap.2 ⟨y,hy,e⟩)),hd,put_eq _ _ ht]
  rfl
 | x :: l,k,a,i+1,o,hn,ho,hd,ht=>by
  have htl : (l.filterMap (·.dst)).Nodup:=by
   cases hx : x.dst with
   | none=>rwa [List.filterMap_cons_none hx] at hn
   | some e=>rw [List.filterMap_cons_some hx] at hn;exact (List.nodup_cons.1 hn).2
  rw [putAll,putAll_fm vals l (k+1) _ i o htl (by simpa using ho) hd (by rw [put_size];exact ht),show k+1+i=k+(i+1) by omega]
def pv (o : Oper) (a : Act) (v : Value) : Value:=match o.dst with
 | some _=>v
 | none=>addrV o a
def RR (ops : Array Oper) (R : World→World→Prop) (L : List (PrR R)) (a0 : Act) (w0 : World) (listed : Array Bool) (a : Act) (w : World) : Prop :=
 listed.size=ops.size∧a.defers=a0.defers∧a.tmps.size=a0.tmps.size∧(∀ t,(∀ o ∈ ops.toList,o.dst≠some t)→a.tmps[t]? = a0.tmps[t]?)∧(∀ i,listed.getD i false=true→prR L i (slotV ops a i) w)∧R w0 w∧(∀ (i : Nat) (o : Oper),ops[i]? = some o→listed.getD i false=true → ∀ e ∈ o.after,Region.binds .any e=true→listed.getD e.on false=true)
def regOR (md : Region.Mode) (ops : Array Oper) (n : Nat) : Bool :=
 (ops.toList.all fun o=>match o.dst with | some d=>decide (d < n) | none=>true) && decide ((ops.toList.filterMap (·.dst)).Nodup)
 && ((List.range ops.size).all fun i=>((ops[i]?).map fun o=>o.after.all fun e => !Region.binds md e || decide (e.on < i)).getD true)
 && (ops.toList.all fun o=>match o.op with
  | .store _ (.tmp t) _=>(List.range ops.size).all fun k=>(((ops[k]?).map fun u=>u.dst != some t).getD true) || (o.after.any fun e=>Region.binds md e && e.on == k)
  | _=>true)
def StepR (P : Program) (md : Region.Mode) (ops : Array Oper) (Q : Exit→Act→World→Prop) (R : World→World→Prop) (L : List (PrR R)) (a0 : Act) (w0 : World) (i : Nat) (o : Oper) : Prop :=
 ∀ (a : Act) (w : World),R w0 w→(∀ j,(o.after.any fun e=>Region.binds md e && e.on == j)=true→prR L j (slotV ops a j) w) →
  (∀ t,ops.toList.all (fun o=>o.dst != some t)=true→a.eval (.tmp t)=a0.eval (.tmp t)) →
  (Region.wanted o (yielded ops a.tmps)=true ∧ ∀ K : Act→World→Prop,(∀ v w',prR L i (pv o a v) w'→R w w'→K (a.put o.dst v) w')→o.wp P a w K Q)∨(Region.wanted o (yielded ops a.tmps)=false∧prR L i (pv o a undef) w)
theorem wp_region_rel {id : Nat} {a0 : Act} {w0 : World} (hr : ∀ w,R w w) (ht : ∀ a b c,R a b→R b c→R a c) (L : List (PrR R)) (hm : P.follows .mixedOrders=true) (hok : regOR .any ops a0.tmps.size=true)
  (hs : AllSteps (StepR P .any ops Q R L a0 w0.drew) ops.toList 0)
  (he : ∀ (vals : Nat→Value) (A : Act) (w : World),A=putAll vals ops.toList 0 a0→R w0.drew w→(∀ i,i < ops.size→prR L i (vals i) w)→(∀ i,vals i=slotV ops A i)→Q .normal A w) :
  (Code.region id ops true).wp P Q a0 w0:=by
 unfold regOR at hok
 simp only [Bool.and_eq_true,decide_eq_true_eq] at hok
 obtain ⟨⟨⟨h1,h2⟩,h3⟩,h4⟩:=hok
 have hdst : ∀ (i : Nat) (o : Oper) (d : Nat),ops[i]? = some o→o.dst=some d→d < a0.tmps.size:=by
  intro i o d ho hd
  have hm' : o ∈ ops.toList:=by rw [Array.mem_toList_iff];exact Array.mem_of_getElem? ho
  have:=List.all_eq_true.1 h1 o hm'
  rw [hd] at this
  simpa using this
 have hafter : ∀ (i : Nat) (o : Oper),ops[i]? = some o → ∀ e ∈ o.after,Region.binds .any e=true→e.on < i:=by
  intro i o ho e hea hb
  have hi:=(Array.getElem?_eq_some_iff.1 ho).1
  have:=List.all_eq_true.1 h3 i (List.mem_range.2 hi)
  rw [ho] at this
  simp only [Option.map_some,Option.getD_some,Array.all_eq_true_iff_forall_mem] at this
  have:=this e hea
  simpa [hb] using this
 have hinj : ∀ (i j : Nat) (o u : Oper) (d : Nat),ops[i]? = some o→ops[j]? = some u→o.dst=some d→u.dst=some d→i=j:=fun i j o u d hi hj ho hu =>
  fm_inj ops.toList h2 i j o u d (by rw [Array.getElem?_toList];exact hi) (by rw [Array.getElem?_toList];exact hj) ho hu
 refine wp_region_any hm (wpAny_inv (I:=RR ops R L a0 w0.drew) ?_ ?_ _ _ _ _ (by unfold unl;refine Nat.le_trans (List.length_filter_le _ _) (by simp)) ?_)
 ·intro listed a w i ⟨r1,r2,r3,r4,r5,r6,r7⟩ hi
  obtain ⟨g1,o,ho,g2⟩:=mem_ready.1 hi
  have hst:=AllSteps.get (i:=i) hs (by rw [Array.getElem?_toList];exact ho)
  rw [Nat.zero_add] at hst
  have hput : ∀ v w',prR L i (pv o a v) w'→R w w'→RR ops R L a0 w0.drew (listed.setIfInBounds i true) (a.put o.dst v) w':=by
   intro v w' hv hE
   refine ⟨by simpa using r1,by rw [put_def];exact r2,by rw [put_size];exact r3,fun t ht => ?_,fun j hj => ?_,ht _ _ _ r6 hE,fun j u hu hj e he1 he2 => ?_⟩
   ·rw [put_ne _ _ (ht o (by rw [Array.mem_toList_iff];exact Array.mem_of_getElem? ho))]
    exact r4 t ht
   ·by_cases e : j=i
    ·subst e
     unfold slotV
     unfold pv at hv
     rw [ho]
     cases hd : o.dst with
     | none=>rw [hd] at hv;simp only [hd];exact hv
     | some d =>
      rw [hd] at hv
      simp only [hd]
      show prR L j ((a.put (some d) v).eval (.tmp d)) w'
      rw [eval_tmp,put_eq _ _ (by rw [r3];exact hdst j o d ho hd)]
      exact hv
    ·rw [getD_set_ne false (fun e'=>e e'.symm)] at hj
     have h5:=prR_ext (r5 j hj) hE
     have : slotV ops (a.put o.dst v) j=slotV ops a j:=by
      unfold slotV
      cases hu : ops[j]? with
      | none=>rfl
      | some u =>
       cases hd' : u.dst with
       | none =>
        simp only [hd']
        unfold addrV
        split
        ·rename_i t x hop
         have hne : o.dst≠some t:=by
          intro ho2
          have hmu : u ∈ ops.toList:=by rw [Array.mem_toList_iff];exact Array.mem_of_getElem? hu
          have h6:=List.all_eq_true.1 h4 u hmu
          rw [hop] at h6
          have h7:=List.all_eq_true.1 h6 i (List.mem_range.2 (Array.getElem?_eq_some_iff.1 ho).1)
          rw [ho] at h7
          simp only [Option.map_some,Option.getD_some,Bool.or_eq_true,bne_iff_ne,ne_eq,ho2,not_true_eq_false,false_or] at h7
          obtain ⟨e3,he3,he4⟩:=Array.any_eq_true'.1 h7
          simp only [Bool.and_eq_true,beq_iff_eq] at he4
          have h8:=r7 j u hu hj e3 he3 he4.1
          rw [he4.2] at h8
          have hsz : i < listed.size:=by rw [r1];exact (Array.getElem?_eq_some_iff.1 ho).1
          simp [hsz] at h8 g1
          rw [g1] at h8
          cases h8
         show (a.put o.dst v).eval (.tmp t)=a.eval (.tmp t)
         rw [eval_tmp,eval_tmp,put_ne _ _ hne]
        ·rfl
       | some d' =>
        simp only [hd']
        show (a.put o.dst v).eval (.tmp d')=a.eval (.tmp d')
        rw [eval_tmp,eval_tmp,put_ne _ _ (fun e'=>e (hinj j i u o d' hu ho hd' e'))]
     rw [this]
     exact h5
   ·have hsz : i < listed.size:=by rw [r1];exact (Array.getElem?_eq_some_iff.1 ho).1
    have key : listed.getD e.on false=true:=by
     by_cases e' : j=i
     ·subst e'
      rw [ho] at hu
      cases hu
      exact g2 e he1 he2
     ·rw [getD_set_ne false (fun h=>e' h.symm)] at hj
      exact r7 j u hu hj e he1 he2
    by_cases e2 : e.on=i
    ·rw [e2];simp [hsz]
    ·rw [getD_set_ne false (fun h=>e2 h.symm)]
     exact key
  have hdep:=hst a w r6 (fun j hj=>by
   obtain ⟨e,he1,he2⟩:=Array.any_eq_true'.1 hj
   simp only [Bool.and_eq_true,beq_iff_eq] at he2
   have:=g2 e he1 he2.1
   rw [he2.2] at this
   exact r5 j this) (fun t ht=>by
   have:=r4 t (fun o ho'=>by simpa using List.all_eq_true.1 ht o ho')
   rw [eval_tmp,eval_tmp,this])
  unfold wpOp
  simp only [ho]
  rcases hdep with ⟨hw,h⟩ | ⟨hw,h⟩
  ·rw [if_pos hw]
   exact .inl (h _ hput)
  ·rw [if_neg (by rw [hw];simp)]
   exact hput _ _ h (hr _)
 ·intro listed a w ⟨r1,r2,r3,r4,r5,r6,_r7⟩ hrd
  have hall : ∀ n i,i < n→i < ops.size→listed.getD i false=true:=by
   intro n
   induction n with
   | zero=>intro i h;omega
   | succ n ih =>
    intro i hi his
    cases hli : listed.getD i true
    ·exfalso
     obtain ⟨o,ho⟩ : ∃ o,ops[i]? = some o:=⟨ops[i],by simp [his]⟩
     have : i ∈ Region.ready .any ops listed:=mem_ready.2 ⟨hli,o,ho,fun e he1 he2=>by
      have:=hafter i o ho e he1 he2
      exact ih _ (by omega) (by omega)⟩
     rw [hrd] at this
     cases this
    ·have hsz : i < listed.size:=by rw [r1];exact his
     simpa [hsz] using hli
  have : putAll (fun i=>slotV ops a i) ops.toList 0 a0=a:=by
   have e1 : (putAll (fun i=>slotV ops a i) ops.toList 0 a0).tmps=a.tmps:=by
    apply Array.ext_getElem?
    intro t
    by_cases hx : ∃ o ∈ ops.toList,o.dst=some t
    ·obtain ⟨o,hom,hd⟩:=hx
     obtain ⟨i,hi⟩:=List.mem_iff_getElem?.1 hom
     have ho : ops[i]? = some o:=by rw [← Array.getElem?_toList];exact hi
     have hdn:=hdst i o t ho hd
     rw [putAll_fm _ ops.toList 0 a0 i o h2 hi hd hdn,Nat.zero_add]
     unfold slotV
     rw [ho]
     simp only [hd]
     show some (a.eval (.tmp t))=_
     rw [eval_tmp,Array.getElem?_eq_getElem (by rw [r3];exact hdn)]
     rfl
    ·have hx' : ∀ o ∈ ops.toList,o.dst≠some t:=fun o h1 h2=>hx ⟨o,h1,h2⟩
     rw [putAll_ne _ _ _ _ hx',r4 t hx']
   have e2:=putAll_def (fun i=>slotV ops a i) ops.toList 0 a0
   rw [← r2] at e2
   cases a
   cases hp : putAll (fun i=>_) ops.toList 0 a0
   simp_all
  exact he (fun i=>slotV ops a i) a w this.symm r6 (fun i hi=>r5 i (hall _ i (Nat.lt_succ_self i) hi)) (fun i=>rfl)
 ·refine ⟨by simp,rfl,rfl,fun _ _=>rfl,fun i hi => ?_,hr _,fun i o _ hi => ?_⟩ <;> (exfalso;by_cases h : i < ops.size <;> simp [h] at hi)
end
end Go.Proofs.YtoanoodfacmieaaGreatDoor

/- A region that draws its order, by what each operation leaves, under a relation of one's own between states: what the operations that have come up left, and the world. -/
namespace Go.Proofs.YtoanoodfacmieaaGreatDoor
set_option maxRecDepth 100000
open Go
abbrev St:=(Nat→Option Value) × World
def upd (β : Nat→Option Value) (i : Nat) (v : Value) : Nat→Option Value:=fun j=>if j=i then some v else β j
def none' : Nat→Option Value:=fun _=>none
section
variable {P : Program} {ops : Array Oper} {Q : Exit→Act→World→Prop} {md : Region.Mode} {R : St→St→Prop}
structure PrS (R : St→St→Prop) where
 p : Value→St→Prop
 m : ∀ v s s',p v s→R s s'→p v s'
def PrS.eq (R : St→St→Prop) (u : Value) : PrS R:=⟨fun v _=>v=u,fun _ _ _ h _=>h⟩
def PrS.any (R : St→St→Prop) : PrS R:=⟨fun _ _=>True,fun _ _ _ h _=>h⟩
def prS (L : List (PrS R)) (i : Nat) (v : Value) (s : St) : Prop:=match L[i]? with
 | some q=>q.p v s
 | none=>True
theorem prS_ext {L : List (PrS R)} {i : Nat} {v : Value} {s s' : St} (h : prS L i v s) (he : R s s') : prS L i v s':=by
 unfold prS at *
 cases hq : L[i]? with
 | none=>trivial
 | some q=>rw [hq] at h;exact q.m _ _ _ h he
def stOf (ops : Array Oper) (listed : Array Bool) (a : Act) (w : World) : St:=(fun i=>if listed.getD i false=true then some (slotV ops a i) else none,w)
def RSt (ops : Array Oper) (R : St→St→Prop) (L : List (PrS R)) (a0 : Act) (w0 : World) (listed : Array Bool) (a : Act) (w : World) : Prop :=
 listed.size=ops.size∧a.defers=a0.defers∧a.tmps.size=a0.tmps.size∧(∀ t,(∀ o ∈ ops.toList,o.dst≠some t)→a.tmps[t]? = a0.tmps[t]?)∧(∀ i,listed.getD i false=true→prS L i (slotV ops a i) (stOf ops listed a w))∧R (none',w0) (stOf ops listed a w)∧(∀ (i : Nat) (o : Oper),ops[i]? = some o→listed.getD i false=true → ∀ e ∈ o.after,Region.binds .any e=true→listed.getD e.on false=true)
def StepS (P : Program) (md : Region.Mode) (ops : Array Oper) (Q : Exit→Act→World→Prop) (R : St→St→Prop) (L : List (PrS R)) (a0 : Act) (w0 : World) (i : Nat) (o : Oper) : Prop :=
 ∀ (β : Nat→Option Value) (a : Act) (w : World),β i=none→R (none',w0) (β,w)→(∀ j,(o.after.any fun e=>Region.binds md e && e.on == j)=true→prS L j (slotV ops a j) (β,w)∧β j=some (slotV ops a j)) →
  (∀ t,ops.toList.all (fun o=>o.dst != some t)=true→a.eval (.tmp t)=a0.eval (.tmp t)) →
  (Region.wanted o (yielded ops a.tmps)=true ∧ ∀ K : Act→World→Prop,(∀ v w',prS L i (pv o a v) (upd β i (pv o a v),w')→R (β,w) (upd β i (pv o a v),w')→K (a.put o.dst v) w')→o.wp P a w K Q)∨(Region.wanted o (yielded ops a.tmps)=false∧prS L i (pv o a undef) (upd β i (pv o a undef),w)∧R (β,w) (upd β i (pv o a undef),w))
theorem wp_region_st {id : Nat} {a0 : Act} {w0 : World} (hr : ∀ s,R s s) (ht : ∀ a b c,R a b→R b c→R a c) (L : List (PrS R)) (hm : P.follows .mixedOrders=true) (hok : regOR .any ops a0.tmps.size=true)
  (hs : AllSteps (StepS P .any ops Q R L a0 w0.drew) ops.toList 0)
  (he : ∀ (vals : Nat→Value) (β : Nat→Option Value) (A : Act) (w : World),A=putAll vals ops.toList 0 a0→R (none',w0.drew) (β,w)→(∀ i,i < ops.size→prS L i (vals i) (β,w))→(∀ i,vals i=slotV ops A i)→(∀ i,i < ops.size→β i=some (vals i))→Q .normal A w) :
  (Code.region id ops true).wp P Q a0 w0:=by
 unfold regOR at hok
 simp only [Bool.and_eq_true,decide_eq_true_eq] at hok
 obtain ⟨⟨⟨h1,h2⟩,h3⟩,h4⟩:=hok
 have hdst : ∀ (i : Nat) (o : Oper) (d : Nat),ops[i]? = some o→o.dst=some d→d < a0.tmps.size:=by
  intro i o d ho hd
  have hm' : o ∈ ops.toList:=by rw [Array.mem_toList_iff];exact Array.mem_of_getElem? ho
  have:=List.all_eq_true.1 h1 o hm'
  rw [hd] at this
  simpa using this
 have hafter : ∀ (i : Nat) (o : Oper),ops[i]? = some o → ∀ e ∈ o.after,Region.binds .any e=true→e.on < i:=by
  intro i o ho e hea hb
  have hi:=(Array.getElem?_eq_some_iff.1 ho).1
  have:=List.all_eq_true.1 h3 i (List.mem_range.2 hi)
  rw [ho] at this
  simp only [Option.map_some,Option.getD_some,Array.all_eq_true_iff_forall_mem] at this
  have:=this e hea
  simpa [hb] using this
 have hinj : ∀ (i j : Nat) (o u : Oper) (d : Nat),ops[i]? = some o→ops[j]? = some u→o.dst=some d→u.dst=some d→i=j:=fun i j o u d hi hj ho hu =>
  fm_inj ops.toList h2 i j o u d (by rw [Array.getElem?_toList];exact hi) (by rw [Array.getElem?_toList];exact hj) ho hu
 refine wp_region_any hm (wpAny_inv (I:=RSt ops R L a0 w0.drew) ?_ ?_ _ _ _ _ (by unfold unl;refine Nat.le_trans (List.length_filter_le _ _) (by simp)) ?_)
 ·intro listed a w i ⟨r1,r2,r3,r4,r5,r6,r7⟩ hi
  obtain ⟨g1,o,ho,g2⟩:=mem_ready.1 hi
  have hst:=AllSteps.get (i:=i) hs (by rw [Array.getElem?_toList];exact ho)
  rw [Nat.zero_add] at hst
  have hisz : i < listed.size:=by rw [r1];exact (Array.getElem?_eq_some_iff.1 ho).1
  have gF : listed.getD i false=false:=by simp [hisz] at g1 ⊢;exact g1
  have hsame : ∀ v j,j≠i→listed.getD j false=true→slotV ops (a.put o.dst v) j=slotV ops a j:=by
   intro v j e hj
   unfold slotV
   cases hu : ops[j]? with
   | none=>rfl
   | some u =>
    cases hd' : u.dst with
    | none =>
     simp only [hd']
     unfold addrV
     split
     ·rename_i t x hop
      have hne : o.dst≠some t:=by
       intro ho2
       have hmu : u ∈ ops.toList:=by rw [Array.mem_toList_iff];exact Array.mem_of_getElem? hu
       have h6:=List.all_eq_true.1 h4 u hmu
       rw [hop] at h6
       have h7:=List.all_eq_true.1 h6 i (List.mem_range.2 (Array.getElem?_eq_some_iff.1 ho).1)
       rw [ho] at h7
       simp only [Option.map_some,Option.getD_some,Bool.or_eq_true,bne_iff_ne,ne_eq,ho2,not_true_eq_false,false_or] at h7
       obtain ⟨e3,he3,he4⟩:=Array.any_eq_true'.1 h7
       simp only [Bool.and_eq_true,beq_iff_eq] at he4
       have h8:=r7 j u hu hj e3 he3 he4.1
       rw [he4.2,gF] at h8
       cases h8
      show (a.put o.dst v).eval (.tmp t)=a.eval (.tmp t)
      rw [eval_tmp,eval_tmp,put_ne _ _ hne]
     ·rfl
    | some d' =>
     simp only [hd']
     show (a.put o.dst v).eval (.tmp d')=a.eval (.tmp d')
     rw [eval_tmp,eval_tmp,put_ne _ _ (fun e'=>e (hinj j i u o d' hu ho hd' e'))]
  have hself : ∀ v,slotV ops (a.put o.dst v) i=pv o a v:=by
   intro v
   unfold slotV pv
   rw [ho]
   cases hd : o.dst with
   | none=>simp only [hd];rfl
   | some d =>
    simp only [hd]
    show (a.put (some d) v).eval (.tmp d)=v
    rw [eval_tmp,put_eq _ _ (by rw [r3];exact hdst i o d ho hd)]
    rfl
  have hsts : ∀ v w',stOf ops (listed.setIfInBounds i true) (a.put o.dst v) w'=(upd (stOf ops listed a w).1 i (pv o a v),w'):=by
   intro v w'
   unfold stOf upd
   refine Prod.ext (funext fun j => ?_) rfl
   dsimp only
   by_cases e : j=i
   ·subst e
    rw [if_pos rfl,if_pos (by simp [hisz]),hself]
   ·rw [if_neg e,getD_set_ne false (fun e'=>e e'.symm)]
    by_cases hj : listed.getD j false=true
    ·rw [if_pos hj,if_pos hj,hsame v j e hj]
    ·rw [if_neg hj,if_neg hj]
  have hput : ∀ v w',prS L i (pv o a v) (upd (stOf ops listed a w).1 i (pv o a v),w')→R (stOf ops listed a w) (upd (stOf ops listed a w).1 i (pv o a v),w')→RSt ops R L a0 w0.drew (listed.setIfInBounds i true) (a.put o.dst v) w':=by
   intro v w' hv hE
   refine ⟨by simpa using r1,by rw [put_def];exact r2,by rw [put_size];exact r3,fun t ht => ?_,fun j hj => ?_,by rw [hsts];exact ht _ _ _ r6 hE,fun j u hu hj e he1 he2 => ?_⟩
   ·rw [put_ne _ _ (ht o (by rw [Array.mem_toList_iff];exact Array.mem_of_getElem? ho))]
    exact r4 t ht
   ·rw [hsts]
    by_cases e : j=i
    ·subst e
     rw [hself]
     exact hv
    ·rw [getD_set_ne false (fun e'=>e e'.symm)] at hj
     rw [hsame v j e hj]
     exact prS_ext (r5 j hj) hE
   ·have key : listed.getD e.on false=true:=by
     by_cases e' : j=i
     ·subst e'
      rw [ho] at hu
      cases hu
      exact g2 e he1 he2
     ·rw [getD_set_ne false (fun h=>e' h.symm)] at hj
      exact r7 j u hu hj e he1 he2
    by_cases e2 : e.on=i
    ·rw [e2];simp [hisz]
    ·rw [getD_set_ne false (fun h=>e2 h.symm)]
     exact key
  have hdep:=hst (stOf ops listed a w).1 a w (by show (if listed.getD i false=true then _ else none)=none;rw [gF];rfl) r6 (fun j hj=>by
   obtain ⟨e,he1,he2⟩:=Array.any_eq_true'.1 hj
   simp only [Bool.and_eq_true,beq_iff_eq] at he2
   have:=g2 e he1 he2.1
   rw [he2.2] at this
   exact ⟨r5 j this,by show (if listed.getD j false=true then _ else none)=_;rw [if_pos this]⟩) (fun t ht=>by
   have:=r4 t (fun o ho'=>by simpa using List.all_eq_true.1 ht o ho')
   rw [eval_tmp,eval_tmp,this])
  unfold wpOp
  simp only [ho]
  rcases hdep with ⟨hw,h⟩ | ⟨hw,h,h'⟩
  ·rw [if_pos hw]
   exact .inl (h _ hput)
  ·rw [if_neg (by rw [hw];simp)]
   exact hput _ _ h h'
 ·intro listed a w ⟨r1,r2,r3,r4,r5,r6,_r7⟩ hrd
  have hall : ∀ n i,i < n→i < ops.size→listed.getD i false=true:=by
   intro n
   induction n with
   | zero=>intro i h;omega
   | succ n ih =>
    intro i hi his
    cases hli : listed.getD i true
    ·exfalso
     obtain ⟨o,ho⟩ : ∃ o,ops[i]? = some o:=⟨ops[i],by simp [his]⟩
     have : i ∈ Region.ready .any ops listed:=mem_ready.2 ⟨hli,o,ho,fun e he1 he2=>by
      have:=hafter i o ho e he1 he2
      exact ih _ (by omega) (by omega)⟩
     rw [hrd] at this
     cases this
    ·have hsz : i < listed.size:=by rw [r1];exact his
     simpa [hsz] using hli
  have : putAll (fun i=>slotV ops a i) ops.toList 0 a0=a:=by
   have e1 : (putAll (fun i=>slotV ops a i) ops.toList 0 a0).tmps=a.tmps:=by
    apply Array.ext_getElem?
    intro t
    by_cases hx : ∃ o ∈ ops.toList,o.dst=some t
    ·obtain ⟨o,hom,hd⟩:=hx
     obtain ⟨i,hi⟩:=List.mem_iff_getElem?.1 hom
     have ho : ops[i]? = some o:=by rw [← Array.getElem?_toList];exact hi
     have hdn:=hdst i o t ho hd
     rw [putAll_fm _ ops.toList 0 a0 i o h2 hi hd hdn,Nat.zero_add]
     unfold slotV
     rw [ho]
     simp only [hd]
     show some (a.eval (.tmp t))=_
     rw [eval_tmp,Array.getElem?_eq_getElem (by rw [r3];exact hdn)]
     rfl
    ·have hx' : ∀ o ∈ ops.toList,o.dst≠some t:=fun o h1 h2=>hx ⟨o,h1,h2⟩
     rw [putAll_ne _ _ _ _ hx',r4 t hx']
   have e2:=putAll_def (fun i=>slotV ops a i) ops.toList 0 a0
   rw [← r2] at e2
   cases a
   cases hp : putAll (fun i=>_) ops.toList 0 a0
   simp_all
  exact he (fun i=>slotV ops a i) (stOf ops listed a w).1 a w this.symm r6 (fun i hi=>r5 i (hall _ i (Nat.lt_succ_self i) hi)) (fun i=>rfl) (fun i hi=>by show (if listed.getD i false=true then _ else none)=_;rw [if_pos (hall _ i (Nat.lt_succ_self i) hi)])
 ·have h0 : stOf ops (Array.replicate ops.size false) a0 w0.drew=(none',w0.drew):=by
   refine Prod.ext (funext fun j => ?_) rfl
   show (if (Array.replicate ops.size false).getD j false=true then _ else none)=none
   rw [if_neg]
   by_cases h : j < ops.size <;> simp [h]
  refine ⟨by simp,rfl,rfl,fun _ _=>rfl,fun i hi => ?_,(show R (none',w0.drew) (stOf ops (Array.replicate ops.size false) a0 w0.drew) by rw [h0];exact hr _),fun i o _ hi => ?_⟩ <;> (exfalso;by_cases h : i < ops.size <;> simp [h] at hi)
end
end Go.Proofs.YtoanoodfacmieaaGreatDoor

/- Worlds that differ in new blocks and in the contents of fresh variables of one type. -/
namespace Go.Proofs.YtoanoodfacmieaaGreatDoor
set_option maxRecDepth 100000
open Go.RowKit
def BoxT (T : TypeId) (n : Nat) (w : World) (b : Nat) : Prop := ∃ vs : Array Value,vs.size=n∧Box w b T vs
structure BxR (N : Nat) (T : TypeId) (n : Nat) (w w' : World) : Prop where
 os : w'.os=w.os
 tape : w'.tape=w.tape
 output : w'.output=w.output
 size : w.heap.size≤w'.heap.size
 block : ∀ b,b < w.heap.size→w'.heap[b]? = w.heap[b]? ∨ (N≤b∧BoxT T n w b∧BoxT T n w' b)
section
variable {N n : Nat} {T : TypeId} {w w' w'' : World}
theorem BxR.refl (w : World) : BxR N T n w w:=⟨rfl,rfl,rfl,Nat.le_refl _,fun _ _ => .inl rfl⟩
theorem BoxT.lt {b : Nat} (h : BoxT T n w b) : b < w.heap.size:=by
 obtain ⟨vs,-,h⟩:=h
 exact h.lt
theorem BxR.boxT {b : Nat} (h : BxR N T n w w') (hb : BoxT T n w b) : BoxT T n w' b:=by
 rcases h.block b hb.lt with h1 | ⟨-,-,h1⟩
 ·obtain ⟨vs,h2,h3⟩:=hb
  exact ⟨vs,h2,h1.trans h3⟩
 ·exact h1
theorem BxR.trans (h : BxR N T n w w') (k : BxR N T n w' w'') : BxR N T n w w'':=by
 refine ⟨k.os.trans h.os,k.tape.trans h.tape,k.output.trans h.output,Nat.le_trans h.size k.size,fun b hb => ?_⟩
 rcases k.block b (Nat.lt_of_lt_of_le hb h.size) with k1 | ⟨k1,k2,k3⟩
 ·rcases h.block b hb with h1 | ⟨h1,h2,h3⟩
  ·exact .inl (k1.trans h1)
  ·refine .inr ⟨h1,h2,?_⟩
   obtain ⟨vs,e1,e2⟩:=h3
   exact ⟨vs,e1,k1.trans e2⟩
 ·rcases h.block b hb with h1 | ⟨h1,h2,h3⟩
  ·refine .inr ⟨k1,?_,k3⟩
   obtain ⟨vs,e1,e2⟩:=k2
   exact ⟨vs,e1,h1.symm.trans e2⟩
  ·exact .inr ⟨h1,h2,k3⟩
theorem BxR.of_ext (h : Ext w w') : BxR N T n w w':=⟨h.os,h.tape,h.output,h.size,fun _ hb => .inl (h.blk hb)⟩
theorem BxR.to_ext (h : BxR N T n w w') (hN : w.heap.size≤N) : Ext w w':=⟨h.os,h.tape,h.output,h.size,fun b hb=>by rcases h.block b hb with h1 | ⟨h1,-,-⟩;exact h1;omega⟩
theorem BxR.set {b : Nat} (hb : BoxT T n w b) (hN : N≤b) (j : Nat) (u : Value) : BxR N T n w (w.setCell ⟨b,j,none⟩ u):=by
 have hE:=ExtBut.setCell w ⟨b,j,none⟩ u
 refine ⟨hE.os,hE.tape,hE.output,hE.size,fun c hc => ?_⟩
 by_cases e : c=b
 ·subst e
  obtain ⟨vs,h1,h2⟩:=hb
  exact .inr ⟨hN,⟨vs,h1,h2⟩,⟨_,by simpa using h1,h2.set j u⟩⟩
 ·exact .inl (hE.block c hc e)
theorem Sl.bxr {k m : Nat} {v : Value} {xs : List Value} (h : Sl w k v m xs) (hx : n < xs.length) (hR : BxR N T n w w') : Sl w' k v m xs:=by
 obtain ⟨h1,a,cap,h2,h3,h4,h5,h6⟩:=h
 obtain ⟨b,off,rfl,hc0⟩:=h6 n _ (List.getElem?_eq_getElem hx)
 have hb:=World.block_lt_of_cell? _ _ hc0
 have hsame : w'.heap[b]? = w.heap[b]? := by
  rcases hR.block b hb with h7 | ⟨-,⟨vs,e1,e2⟩,-⟩
  ·exact h7
  ·exfalso
   rw [e2.cell,Array.getElem?_eq_none (by omega)] at hc0
   cases hc0
 refine ⟨h1,_,cap,h2,h3,h4,h5,fun j u hj => ?_⟩
 obtain ⟨b',off',e,hc⟩:=h6 j u hj
 cases e
 exact ⟨b,off,rfl,by rw [← hc];exact World.cell?_of_block hsame⟩
end
structure BxX (N : Nat) (T : TypeId) (n : Nat) (X : World→Array Value→Prop) (w w' : World) : Prop where
 os : w'.os=w.os
 tape : w'.tape=w.tape
 output : w'.output=w.output
 size : w.heap.size≤w'.heap.size
 block : ∀ b,b < w.heap.size→w'.heap[b]? = w.heap[b]? ∨ (N≤b∧BoxT T n w b ∧ ∃ vs,vs.size=n∧Box w' b T vs∧X w' vs)
section
variable {N n : Nat} {T : TypeId} {X : World→Array Value→Prop} {w w' w'' : World}
theorem BxX.refl (w : World) : BxX N T n X w w:=⟨rfl,rfl,rfl,Nat.le_refl _,fun _ _ => .inl rfl⟩
theorem BxX.rel (h : BxX N T n X w w') : BxR N T n w w':=⟨h.os,h.tape,h.output,h.size,fun b hb=>(h.block b hb).imp id fun ⟨h1,h2,vs,h3,h4,_⟩=>⟨h1,h2,vs,h3,h4⟩⟩
theorem BxX.trans (hX : ∀ w w' vs,X w vs→BxR N T n w w'→X w' vs) (h : BxX N T n X w w') (k : BxX N T n X w' w'') : BxX N T n X w w'':=by
 refine ⟨k.os.trans h.os,k.tape.trans h.tape,k.output.trans h.output,Nat.le_trans h.size k.size,fun b hb => ?_⟩
 rcases k.block b (Nat.lt_of_lt_of_le hb h.size) with k1 | ⟨k1,k2,k3⟩
 ·rcases h.block b hb with h1 | ⟨h1,h2,vs,h3,h4,h5⟩
  ·exact .inl (k1.trans h1)
  ·exact .inr ⟨h1,h2,vs,h3,k1.trans h4,hX _ _ _ h5 k.rel⟩
 ·rcases h.block b hb with h1 | ⟨h1,h2,-⟩
  ·refine .inr ⟨k1,?_,k3⟩
   obtain ⟨vs,e1,e2⟩:=k2
   exact ⟨vs,e1,h1.symm.trans e2⟩
  ·exact .inr ⟨h1,h2,k3⟩
theorem BxX.of_ext (h : Ext w w') : BxX N T n X w w':=⟨h.os,h.tape,h.output,h.size,fun _ hb => .inl (h.blk hb)⟩
theorem BxX.to_ext (h : BxX N T n X w w') (hN : w.heap.size≤N) : Ext w w':=h.rel.to_ext hN
theorem BxX.but {b : Nat} (hE : ExtBut (· = b) w w') (hb : BoxT T n w b) (hN : N≤b) {vs : Array Value} (hs : vs.size=n) (hB : Box w' b T vs) (hX : X w' vs) : BxX N T n X w w' :=
 ⟨hE.os,hE.tape,hE.output,hE.size,fun c hc=>by
  by_cases e : c=b
  ·subst e;exact .inr ⟨hN,hb,vs,hs,hB,hX⟩
  ·exact .inl (hE.block c hc e)⟩
def PrR.up {N n : Nat} {T : TypeId} {X : World→Array Value→Prop} (q : PrR (BxR N T n)) : PrR (BxX N T n X):=⟨q.p,fun v w w' h hR=>q.m v w w' h hR.rel⟩
end
def PrRB (N : Nat) (T : TypeId) (n : Nat) : PrR (BxR N T n):=⟨fun v w => ∃ b,v = .pointer (some ⟨b,0,none⟩)∧N≤b∧BoxT T n w b,fun _ _ _ ⟨b,h1,h2,h3⟩ hR=>⟨b,h1,h2,hR.boxT h3⟩⟩
end Go.Proofs.YtoanoodfacmieaaGreatDoor

/- States of a region that differ in new blocks and in the contents of the variables that the region itself makes. -/
namespace Go.Proofs.YtoanoodfacmieaaGreatDoor
set_option maxRecDepth 100000
open Go.RowKit
def blk (Bx : List Nat) (β : Nat→Option Value) (x : Nat) : Prop := ∃ i ∈ Bx,β i=some (.pointer (some ⟨x,0,none⟩))
structure RX0 (N : Nat) (Bx : List Nat) (s s' : St) : Prop where
 grow : ∀ i v,s.1 i=some v→s'.1 i=some v
 fresh : ∀ i ∈ Bx,s.1 i=none → ∀ x,s'.1 i=some (.pointer (some ⟨x,0,none⟩))→s.2.heap.size≤x∧x < s'.2.heap.size
 os : s'.2.os=s.2.os
 tape : s'.2.tape=s.2.tape
 output : s'.2.output=s.2.output
 size : s.2.heap.size≤s'.2.heap.size
 block : ∀ b,b < s.2.heap.size→s'.2.heap[b]? = s.2.heap[b]? ∨ (N≤b∧blk Bx s.1 b ∧ ∃ T vs vs',Box s.2 b T vs∧Box s'.2 b T vs'∧vs'.size=vs.size)
structure RX (N : Nat) (Bx : List Nat) (X : TypeId→St→Array Value→Prop) (s s' : St) : Prop where
 grow : ∀ i v,s.1 i=some v→s'.1 i=some v
 fresh : ∀ i ∈ Bx,s.1 i=none → ∀ x,s'.1 i=some (.pointer (some ⟨x,0,none⟩))→s.2.heap.size≤x∧x < s'.2.heap.size
 os : s'.2.os=s.2.os
 tape : s'.2.tape=s.2.tape
 output : s'.2.output=s.2.output
 size : s.2.heap.size≤s'.2.heap.size
 block : ∀ b,b < s.2.heap.size→s'.2.heap[b]? = s.2.heap[b]? ∨ (N≤b∧blk Bx s.1 b ∧ ∃ T vs vs',Box s.2 b T vs∧Box s'.2 b T vs'∧vs'.size=vs.size∧X T s' vs')
section
variable {N : Nat} {Bx : List Nat} {X : TypeId→St→Array Value→Prop} {s s' s'' : St}
theorem Box.uniq {w : World} {b : Nat} {T T' : TypeId} {vs vs' : Array Value} (h : Box w b T vs) (h' : Box w b T' vs') : T=T'∧vs=vs':=by
 have e:=(show w.heap[b]? = _ from h).symm.trans h'
 simp only [Option.some.injEq,Obj.cells.injEq,and_true] at e
 exact ⟨e.2,e.1⟩
theorem RX.rel (h : RX N Bx X s s') : RX0 N Bx s s':=⟨h.grow,h.fresh,h.os,h.tape,h.output,h.size,fun b hb=>(h.block b hb).imp id fun ⟨h1,h2,T,vs,vs',h3,h4,h5,_⟩=>⟨h1,h2,T,vs,vs',h3,h4,h5⟩⟩
theorem RX.refl (s : St) : RX N Bx X s s:=⟨fun _ _ h=>h,fun _ _ h x e=>(by rw [h] at e;cases e),rfl,rfl,rfl,Nat.le_refl _,fun _ _ => .inl rfl⟩
theorem blk_back (hg : ∀ i v,s.1 i=some v→s'.1 i=some v) (hf : ∀ i ∈ Bx,s.1 i=none → ∀ x,s'.1 i=some (.pointer (some ⟨x,0,none⟩))→s.2.heap.size≤x∧x < s'.2.heap.size) {b : Nat} (hb : b < s.2.heap.size) (h : blk Bx s'.1 b) : blk Bx s.1 b:=by
 obtain ⟨i,hi,e⟩:=h
 refine ⟨i,hi,?_⟩
 cases h1 : s.1 i with
 | none=>have:=(hf i hi h1 b e).1;omega
 | some v=>rw [hg i v h1] at e;exact e
theorem RX.trans (hX : ∀ T s s' vs,X T s vs→RX0 N Bx s s'→X T s' vs) (h : RX N Bx X s s') (k : RX N Bx X s' s'') : RX N Bx X s s'':=by
 refine ⟨fun i v e=>k.grow i v (h.grow i v e),fun i hi e x e2 => ?_,k.os.trans h.os,k.tape.trans h.tape,k.output.trans h.output,Nat.le_trans h.size k.size,fun b hb => ?_⟩
 ·cases h1 : s'.1 i with
  | none=>have:=k.fresh i hi h1 x e2;have:=h.size;exact ⟨by omega,by omega⟩
  | some v =>
   have e3:=k.grow i v h1
   rw [e2] at e3
   cases e3
   have:=h.fresh i hi e x h1
   have:=k.size
   exact ⟨by omega,by omega⟩
 ·rcases k.block b (Nat.lt_of_lt_of_le hb h.size) with k1 | ⟨k1,k2,T,us,us',k3,k4,k5,k6⟩
  ·rcases h.block b hb with h1 | ⟨h1,h2,T,vs,vs',h3,h4,h5,h6⟩
   ·exact .inl (k1.trans h1)
   ·exact .inr ⟨h1,h2,T,vs,vs',h3,k1.trans h4,h5,hX _ _ _ _ h6 k.rel⟩
  ·have hb2:=blk_back h.grow h.fresh hb k2
   rcases h.block b hb with h1 | ⟨h1,h2,T',vs,vs',h3,h4,h5,h6⟩
   ·exact .inr ⟨k1,hb2,T,us,us',h1.symm.trans k3,k4,k5,k6⟩
   ·obtain ⟨rfl,rfl⟩:=Box.uniq h4 k3
    exact .inr ⟨k1,hb2,T',vs,us',h3,k4,k5.trans h5,k6⟩
theorem RX.to_ext (h : RX N Bx X s s') (hN : s.2.heap.size≤N) : Ext s.2 s'.2:=⟨h.os,h.tape,h.output,h.size,fun b hb=>by rcases h.block b hb with h1 | ⟨h1,-⟩;exact h1;omega⟩
variable {β : Nat→Option Value} {w w' : World} {i : Nat} {v : Value}
theorem upd_grow (h0 : β i=none) : ∀ k u,β k=some u→upd β i v k=some u:=fun k u e=>by
 unfold upd
 rw [if_neg]
 ·exact e
 ·intro h;subst h;rw [h0] at e;cases e
theorem RX.ext (h0 : β i=none) (hi : i ∉ Bx) (hE : Ext w w') : RX N Bx X (β,w) (upd β i v,w') :=
 ⟨upd_grow h0,fun k hk e x e2=>by
  have hne : k≠i:=fun h=>hi (h ▸ hk)
  have e3 : upd β i v k=some _:=e2
  unfold upd at e3
  rw [if_neg hne] at e3
  exact absurd (e.symm.trans e3) (by simp),hE.os,hE.tape,hE.output,hE.size,fun _ hb => .inl (hE.blk hb)⟩
theorem RX0.ext (h0 : β i=none) (hi : i ∉ Bx) (hE : Ext w w') : RX0 N Bx (β,w) (upd β i v,w'):=(RX.ext (X:=fun _ _ _=>True) h0 hi hE).rel
theorem RX.made (h0 : β i=none) (hE : Ext w w') (hv : ∀ x,v = .pointer (some ⟨x,0,none⟩)→w.heap.size≤x∧x < w'.heap.size) : RX N Bx X (β,w) (upd β i v,w') :=
 ⟨upd_grow h0,fun k _ e x e2=>by
  have e3 : upd β i v k=some _:=e2
  unfold upd at e3
  by_cases hk : k=i
  ·rw [if_pos hk] at e3;cases e3;exact hv x rfl
  ·rw [if_neg hk] at e3;exact absurd (e.symm.trans e3) (by simp),hE.os,hE.tape,hE.output,hE.size,fun _ hb => .inl (hE.blk hb)⟩
theorem RX.store {j b : Nat} {T : TypeId} {vs vs' : Array Value} (h0 : β i=none) (hi : i ∉ Bx) (hj : j ∈ Bx) (hb : β j=some (.pointer (some ⟨b,0,none⟩))) (hN : N≤b) (hE : ExtBut (· = b) w w') (h1 : Box w b T vs) (h2 : Box w' b T vs') (h3 : vs'.size=vs.size) (hX : RX0 N Bx (β,w) (upd β i v,w')→X T (upd β i v,w') vs') :
  X T (upd β i v,w') vs'∧RX N Bx X (β,w) (upd β i v,w'):=by
 have hf : ∀ k ∈ Bx,β k=none → ∀ x,upd β i v k=some (.pointer (some ⟨x,0,none⟩))→w.heap.size≤x∧x < w'.heap.size:=fun k hk e x e2=>by
  have hne : k≠i:=fun h=>hi (h ▸ hk)
  unfold upd at e2
  rw [if_neg hne] at e2
  exact absurd (e.symm.trans e2) (by simp)
 have h4:=hX ⟨upd_grow h0,hf,hE.os,hE.tape,hE.output,hE.size,fun c hc=>by
  by_cases e : c=b
  ·subst e;exact .inr ⟨hN,⟨j,hj,hb⟩,T,vs,vs',h1,h2,h3⟩
  ·exact .inl (hE.block c hc e)⟩
 exact ⟨h4,upd_grow h0,hf,hE.os,hE.tape,hE.output,hE.size,fun c hc=>by
  by_cases e : c=b
  ·subst e;exact .inr ⟨hN,⟨j,hj,hb⟩,T,vs,vs',h1,h2,h3,h4⟩
  ·exact .inl (hE.block c hc e)⟩
theorem RX.low {w0 : World} (h : RX N Bx X (none',w0) (β,w)) {x : Nat} (hb : blk Bx β x) : x < w.heap.size:=by
 obtain ⟨k,hk,e⟩:=hb
 exact (h.fresh k hk rfl x e).2
def FSb (N : Nat) (Bx : List Nat) (s : St) (R : World→Prop) : Prop:=Fq (fun x=>N≤x ∧ ¬ blk Bx s.1 x) s.2 R
theorem FSb.mono {R : World→Prop} (h : FSb N Bx s R) (k : RX0 N Bx s s') : FSb N Bx s' R:=fun w'' hw=>h w'' fun b h1 hl=>by
 have hn : ¬ blk Bx s'.1 b:=fun e=>h1.2 (blk_back k.grow k.fresh hl e)
 rw [hw b ⟨h1.1,hn⟩ (Nat.lt_of_lt_of_le hl k.size)]
 rcases k.block b hl with e | ⟨-,h2,-⟩
 ·exact e
 ·exact absurd h2 h1.2
theorem FSb.new {w0 : World} {R : World→Prop} (hR : RX N Bx X (none',w0) (β,w)) (hi : i ∉ Bx) (hN : N≤w.heap.size) (h : Fq (fun b=>w.heap.size≤b) w' R) : FSb N Bx (upd β i v,w') R :=
 Fq.mono h fun b h1 _=>⟨by omega,fun e=>by
  obtain ⟨k,hk,e2⟩:=e
  have e3 : upd β i v k=some _:=e2
  unfold upd at e3
  have hne : k≠i:=fun hki=>hi (hki ▸ hk)
  rw [if_neg hne] at e3
  have:=hR.low ⟨k,hk,e3⟩
  omega⟩
def PrFS (N : Nat) (Bx : List Nat) (X : TypeId→St→Array Value→Prop) {A : Type} (f : A→Value) (Rd : A→World→Prop) : PrS (RX N Bx X) :=
 ⟨fun v s => ∃ a,v=f a∧FSb N Bx s (Rd a),fun _ _ _ ⟨a,h1,h2⟩ hR=>⟨a,h1,h2.mono hR.rel⟩⟩
def PrBx (N : Nat) (Bx : List Nat) (X : TypeId→St→Array Value→Prop) (T : TypeId) (n : Nat) : PrS (RX N Bx X) :=
 ⟨fun v s => ∃ b,v = .pointer (some ⟨b,0,none⟩)∧N≤b∧BoxT T n s.2 b,fun _ s s' ⟨b,h1,h2,h3⟩ hR=>⟨b,h1,h2,by
  rcases hR.block b h3.lt with h4 | ⟨-,-,T',vs,vs',h5,h6,h7,-⟩
  ·obtain ⟨us,e1,e2⟩:=h3
   exact ⟨us,e1,h4.trans e2⟩
  ·obtain ⟨us,e1,e2⟩:=h3
   obtain ⟨rfl,rfl⟩:=Box.uniq e2 h5
   exact ⟨vs',h7.trans e1,h6⟩⟩⟩
def PrSt (N : Nat) (Bx : List Nat) (X : TypeId→St→Array Value→Prop) (hX : ∀ T s s' vs,X T s vs→RX0 N Bx s s'→X T s' vs) (T : TypeId) : PrS (RX N Bx X) :=
 ⟨fun v s => ∃ b vs,v = .pointer (some ⟨b,0,none⟩)∧N≤b∧Box s.2 b T vs∧X T s vs,fun _ s s' ⟨b,vs,h1,h2,h3,h4⟩ hR=>by
  rcases hR.block b h3.lt with h5 | ⟨-,-,T',us,us',h5,h6,-,h7⟩
  ·exact ⟨b,vs,h1,h2,h5.trans h3,hX _ _ _ _ h4 hR.rel⟩
  ·obtain ⟨rfl,rfl⟩:=Box.uniq h3 h5
   exact ⟨b,us',h1,h2,h6,h7⟩⟩
end
structure A3 where
 a1 : Option Addr
 c1 : Nat
 a2 : Option Addr
 c2 : Nat
 a3 : Option Addr
 c3 : Nat
def RdA (m : Mon) (a : A3) (w : World) : Prop:=Als w (.slice a.a1 m.mem.al.length a.c1) m.mem.al∧Kts w (.slice a.a2 m.stks.length a.c2) m.stks∧Nts w (.slice a.a3 m.run.length a.c3) m.run
def XM (N : Nat) (Bx : List Nat) (m : Mon) (pv : Array Value) (T : TypeId) (s : St) (vs : Array Value) : Prop :=
 (T=30 → ∃ a : A3,vs=#[.slice a.a1 m.mem.al.length a.c1,.int .i64 m.mem.next,.slice a.a2 m.stks.length a.c2,.slice a.a3 m.run.length a.c3,.int .i64 m.tag,.int .i64 m.call]∧FSb N Bx s (RdA m a))∧(T=35→vs=pv)
theorem XM_st {N : Nat} {Bx : List Nat} {m : Mon} {pv : Array Value} : ∀ T s s' vs,XM N Bx m pv T s vs→RX0 N Bx s s'→XM N Bx m pv T s' vs:=fun _ _ _ _ h k=>⟨fun e=>by
 obtain ⟨a,h1,h2⟩:=h.1 e
 exact ⟨a,h1,h2.mono k⟩,h.2⟩
theorem FrMon.a3 {w w' : World} {v : Value} {m : Mon} (h : FrMon w w' v m) : ∃ a : A3,v = .agg #[.slice a.a1 m.mem.al.length a.c1,.int .i64 m.mem.next,.slice a.a2 m.stks.length a.c2,.slice a.a3 m.run.length a.c3,.int .i64 m.tag,.int .i64 m.call]∧Fq (fun b=>w.heap.size≤b) w' (RdA m a):=by
 obtain ⟨sa,ss,sr,rfl,q⟩:=FrMon.parts h
 obtain ⟨a1,c1,rfl,-⟩:=(q.read).1.form
 obtain ⟨a2,c2,rfl,-⟩:=(q.read).2.1.form
 obtain ⟨a3,c3,rfl,-⟩:=(q.read).2.2.form
 exact ⟨⟨a1,c1,a2,c2,a3,c3⟩,rfl,q⟩
theorem Cls.litF (w : World) (cs : Array Value) (l : List Cell) (n : Nat) (hn : n=l.length) (h2 : n≤maxLen) (hc : cs.toList=l.flatMap Cell.row) : Fq (fun b=>w.heap.size≤b) (w.alloc (.cells cs 37)) (fun w'=>Cls w' (.slice (some ⟨w.heap.size,0,none⟩) n n) l):=by
 subst hn
 have hs : cs.size=l.length * 5:=by
  rw [← Array.length_toList,hc]
  exact rows_len (k:=5) Cell.row (fun _=>rfl) l
 have hO:=Own.lit' (B:=w.heap.size) (e:=37) (k:=5) w cs l.length (Nat.le_refl _) h2 hs
 rw [hc] at hO
 exact (Own.fs hO).mono fun b e _=>(hO.lt e).1
end Go.Proofs.YtoanoodfacmieaaGreatDoor

/- Worlds that differ in new blocks and in the contents of fresh variables of some types; what such a variable holds afterwards, by its type. -/
namespace Go.Proofs.YtoanoodfacmieaaGreatDoor
set_option maxRecDepth 100000
open Go.RowKit
structure BxS (N : Nat) (L : List (TypeId × Nat)) (X : TypeId→Array Value→Prop) (w w' : World) : Prop where
 os : w'.os=w.os
 tape : w'.tape=w.tape
 output : w'.output=w.output
 size : w.heap.size≤w'.heap.size
 block : ∀ b,b < w.heap.size→w'.heap[b]? = w.heap[b]? ∨ (N≤b ∧ ∃ T n,(T,n) ∈ L∧BoxT T n w b ∧ ∃ vs,vs.size=n∧Box w' b T vs∧X T vs)
section
variable {N : Nat} {L : List (TypeId × Nat)} {X : TypeId→Array Value→Prop} {w w' w'' : World}
theorem BxS.refl (w : World) : BxS N L X w w:=⟨rfl,rfl,rfl,Nat.le_refl _,fun _ _ => .inl rfl⟩
theorem BxS.trans (h : BxS N L X w w') (k : BxS N L X w' w'') : BxS N L X w w'':=by
 refine ⟨k.os.trans h.os,k.tape.trans h.tape,k.output.trans h.output,Nat.le_trans h.size k.size,fun b hb => ?_⟩
 rcases k.block b (Nat.lt_of_lt_of_le hb h.size) with k1 | ⟨k1,T,n,hm,k2,k3⟩
 ·rcases h.block b hb with h1 | ⟨h1,T,n,hm,h2,vs,h3,h4,h5⟩
  ·exact .inl (k1.trans h1)
  ·exact .inr ⟨h1,T,n,hm,h2,vs,h3,k1.trans h4,h5⟩
 ·rcases h.block b hb with h1 | ⟨h1,T',n',hm',h2,vs',h3,h4,-⟩
  ·refine .inr ⟨k1,T,n,hm,?_,k3⟩
   obtain ⟨vs,e1,e2⟩:=k2
   exact ⟨vs,e1,h1.symm.trans e2⟩
  ·obtain ⟨vs2,e1,e2⟩:=k2
   have e3:=e2.symm.trans h4
   simp only [Option.some.injEq,Obj.cells.injEq,and_true] at e3
   obtain ⟨rfl,rfl⟩:=e3
   obtain ⟨us,e4,e5⟩:=h2
   exact .inr ⟨h1,T,n,hm,⟨us,by omega,e5⟩,k3⟩
theorem BxS.of_ext (h : Ext w w') : BxS N L X w w':=⟨h.os,h.tape,h.output,h.size,fun _ hb => .inl (h.blk hb)⟩
theorem BxS.to_ext (h : BxS N L X w w') (hN : w.heap.size≤N) : Ext w w':=⟨h.os,h.tape,h.output,h.size,fun b hb=>by rcases h.block b hb with h1 | ⟨h1,-⟩;exact h1;omega⟩
theorem BxS.but {T : TypeId} {n b : Nat} (hE : ExtBut (· = b) w w') (hm : (T,n) ∈ L) (hb : BoxT T n w b) (hN : N≤b) {vs : Array Value} (hs : vs.size=n) (hB : Box w' b T vs) (hX : X T vs) : BxS N L X w w' :=
 ⟨hE.os,hE.tape,hE.output,hE.size,fun c hc=>by
  by_cases e : c=b
  ·subst e;exact .inr ⟨hN,T,n,hm,hb,vs,hs,hB,hX⟩
  ·exact .inl (hE.block c hc e)⟩
end
end Go.Proofs.YtoanoodfacmieaaGreatDoor

/- Contracts: the reference's stacked of layer 35. (printed by gen/ref35a.py) -/
namespace Go.Proofs.YtoanoodfacmieaaGreatDoor
set_option maxRecDepth 100000
open Go.RowKit
end Go.Proofs.YtoanoodfacmieaaGreatDoor

/- Contracts: the reference's Check of layer 35. (printed by gen/ref35b.py) -/
namespace Go.Proofs.YtoanoodfacmieaaGreatDoor
set_option maxRecDepth 100000
open Go.RowKit
end Go.Proofs.YtoanoodfacmieaaGreatDoor

/- What the reference's copy of a monitor is: tables that the call owns, running calls that it owns; no program in sight. -/
namespace Go.Proofs.YtoanoodfacmieaaGreatDoor
set_option maxRecDepth 100000
open Go.RowKit
def tyB (w : World) (b : Nat) : Option TypeId:=match w.heap[b]? with
 | some (.cells _ e _)=>some e
 | _=>none
theorem Own.ty {w : World} {B : Nat} {e k n : Nat} {v : Value} {xs : List Value} (h : Own w B e k v n xs) {g : Nat} (hg : v.ownBlock=some g) : tyB w g=some e:=by
 rcases h.2 with ⟨rfl,-⟩ | ⟨g',cap,cur,rfl,-,hh,-⟩
 ·cases hg
 ·have e' : some g'=some g:=hg
  cases e'
  simp only [tyB,hh]
theorem Own.apart {w : World} {B B2 : Nat} {e e2 k k2 n n2 : Nat} {v u : Value} {xs ys : List Value} (h : Own w B e k v n xs) (h2 : Own w B2 e2 k2 u n2 ys) (he : e≠e2) {g : Nat} (hg : v.ownBlock=some g) : u.ownBlock≠some g:=fun hg2=>by
 have:=(h.ty hg).symm.trans (h2.ty hg2)
 exact he (by simpa using this)
theorem OM.ty {w : World} {B : Nat} {v : Value} {vs : List Value} {l : List Alloc} (h : OM w B v vs l) {s : Value} (hs : s ∈ vs) {g : Nat} (hg : s.ownBlock=some g) : tyB w g=some 37:=by
 obtain ⟨i,hi⟩:=List.mem_iff_getElem?.1 hs
 have hil:=(List.getElem?_eq_some_iff.1 hi).1
 rw [(All2.iff.1 h.inner).1] at hil
 have hal : l[i]? = some l[i]:=by simp [hil]
 exact Own.ty ((All2.iff.1 h.inner).2 i s _ hi hal) hg
structure Tw (w : World) (B N : Nat) (sa ss sr : Value) (vsA vs : List Value) (m : Mon) : Prop where
 al : OM w B sa vsA m.mem.al
 run : Own w B 3 1 sr m.run.length (m.run.flatMap irow)
 stk : OwnK w N ss vs m.stks
 low : B≤N∧N≤w.heap.size
 loA : (∀ g,sa.ownBlock=some g→g < N) ∧ ∀ s ∈ vsA,∀ g,s.ownBlock=some g→g < N
 loR : ∀ g,sr.ownBlock=some g→g < N
def RetTw (w : World) (m : Mon) (en : Ending) (w' : World) : Prop := ∃ N sa ss sr vsA vs,en = .returned (.agg #[sa,.int .i64 m.mem.next,ss,sr,.int .i64 m.tag,.int .i64 m.call])∧Tw w' w.heap.size N sa ss sr vsA vs m∧Ext w w'
section
variable {w w' : World} {B N : Nat} {sa ss sr : Value} {vsA vs : List Value} {m : Mon}
theorem Tw.but {S : Nat→Prop} (h : Tw w B N sa ss sr vsA vs m) (hE : ExtBut S w w') (hS : ∀ b,B≤b → ¬ S b) : Tw w' B N sa ss sr vsA vs m :=
 ⟨OM.but h.al hE (fun g e=>hS g (h.al.outer.lt e).1) (fun s hs g e=>hS g (OM.inner_lt h.al s hs g e).1),ExtBut.own h.run hE (fun g e=>hS g (h.run.lt e).1),h.stk.but hE (fun b hb=>hS b (Nat.le_trans h.low.1 hb)),⟨h.low.1,Nat.le_trans h.low.2 hE.size⟩,h.loA,h.loR⟩
theorem Tw.ext (h : Tw w B N sa ss sr vsA vs m) (hE : Ext w w') : Tw w' B N sa ss sr vsA vs m:=h.but (ExtBut.of_ext (S:=fun _=>False) hE) (fun _ _ h=>h)
theorem Tw.mono {B' : Nat} (h : Tw w B N sa ss sr vsA vs m) (hB : B'≤B) : Tw w B' N sa ss sr vsA vs m:=⟨OM.mono h.al hB,h.run.mono hB,h.stk,⟨Nat.le_trans hB h.low.1,h.low.2⟩,h.loA,h.loR⟩
theorem Tw.alF (h : Tw w B N sa ss sr vsA vs m) : Fq (fun b=>B≤b∧b < N∧sr.ownBlock≠some b) w (fun w=>Als w sa m.mem.al) :=
 (OM.fsx h.al).mono fun b hb _=>by
  rcases hb with hb | ⟨s,hs,hb⟩
  ·exact ⟨(h.al.outer.lt hb).1,h.loA.1 b hb,fun e=>Own.apart h.al.outer h.run (by decide) hb e⟩
  ·refine ⟨(OM.inner_lt h.al s hs b hb).1,h.loA.2 s hs b hb,fun e => ?_⟩
   have:=(OM.ty h.al hs hb).symm.trans (h.run.ty e)
   simp at this
theorem Tw.runF (h : Tw w B N sa ss sr vsA vs m) : Fq (fun b=>sr.ownBlock=some b) w (fun w=>Nts w sr m.run):=h.run.fs
theorem Tw.read (h : Tw w B N sa ss sr vsA vs m) : RdMon w (.agg #[sa,.int .i64 m.mem.next,ss,sr,.int .i64 m.tag,.int .i64 m.call]) m:=⟨_,_,_,rfl,OM.read h.al,h.stk.read,h.run.sl⟩
end
theorem RetTw.mon {w w' : World} {m : Mon} {en : Ending} (h : RetTw w m en w') : RetF w (fun v=>v) m en w':=by
 obtain ⟨N,sa,ss,sr,vsA,vs,rfl,hT,hE⟩:=h
 exact ⟨_,rfl,FrMon.of_fs (hT.alF.mono fun b h1 _=>h1.1) (hT.stk.fs.mono fun b h1 _=>Nat.le_trans hT.low.1 h1) (hT.runF.mono fun b h1 _=>(hT.run.lt h1).1),hE⟩
end Go.Proofs.YtoanoodfacmieaaGreatDoor

/- MonitorSteps: what holds at the head of its loop; rows and pointers aas data. -/
namespace Go.Proofs.YtoanoodfacmieaaGreatDoor
set_option maxRecDepth 100000
open Go.RowKit
theorem Row5.row_len (x : Row5) : x.row.length=5:=rfl
theorem Ptr.row_len (x : Ptr) : x.row.length=3:=rfl
theorem Fvs.cell {w : World} {a : Option Addr} {n cap : Nat} {l : List Row5} (h : Fvs w (.slice a n cap) l) {i : Nat} {x : Row5} (hx : l[i]? = some x) :
  ∃ b off,a=some ⟨b,off,none⟩∧b < w.heap.size∧w.cell? ⟨b,off+i * 5,none⟩=some (.int .i64 x.a)∧w.cell? ⟨b,off+i * 5+1,none⟩=some (.int .i64 x.b)∧w.cell? ⟨b,off+i * 5+2,none⟩=some (.int .i64 x.c)∧w.cell? ⟨b,off+i * 5+3,none⟩=some (.int .i64 x.d)∧w.cell? ⟨b,off+i * 5+4,none⟩=some (.int .i64 x.e):=by
 have hi : i < l.length:=(List.getElem?_eq_some_iff.1 hx).1
 obtain ⟨b,off,rfl,hb,hc⟩:=Sl.at h (by omega) (by omega : 0 < l.length)
 have g:=rows_get Row5.row Row5.row_len l i
 refine ⟨b,off,rfl,hb,?_,?_,?_,?_,?_⟩
 ·have:=hc (i * 5+0) _ ((g 0 x hx (by omega)).trans rfl)
  simpa using this
 ·exact hc (i * 5+1) _ ((g 1 x hx (by omega)).trans rfl)
 ·exact hc (i * 5+2) _ ((g 2 x hx (by omega)).trans rfl)
 ·exact hc (i * 5+3) _ ((g 3 x hx (by omega)).trans rfl)
 ·exact hc (i * 5+4) _ ((g 4 x hx (by omega)).trans rfl)
theorem Pvs.cell {w : World} {a : Option Addr} {n cap : Nat} {l : List Ptr} (h : Sl w 3 (.slice a n cap) l.length (l.flatMap Ptr.row)) {i : Nat} {x : Ptr} (hx : l[i]? = some x) :
  ∃ b off,a=some ⟨b,off,none⟩∧b < w.heap.size∧w.cell? ⟨b,off+i * 3,none⟩=some (.int .i64 x.a)∧w.cell? ⟨b,off+i * 3+1,none⟩=some (.int .i64 x.o)∧w.cell? ⟨b,off+i * 3+2,none⟩=some (.int .i64 x.t):=by
 have hi : i < l.length:=(List.getElem?_eq_some_iff.1 hx).1
 obtain ⟨b,off,rfl,hb,hc⟩:=Sl.at h (by omega) (by omega : 0 < l.length)
 have g:=rows_get Ptr.row Ptr.row_len l i
 refine ⟨b,off,rfl,hb,?_,?_,?_⟩
 ·have:=hc (i * 3+0) _ ((g 0 x hx (by omega)).trans rfl)
  simpa using this
 ·exact hc (i * 3+1) _ ((g 1 x hx (by omega)).trans rfl)
 ·exact hc (i * 3+2) _ ((g 2 x hx (by omega)).trans rfl)
theorem Ptr.infoE : ∃ i z,Tryz.prog.info? 35=some i∧i.zero=some z∧i.size=3∧z.cells.size=3∧i.bytes=24:=by
 have h : (Tryz.prog.info? 35).map (fun i=>(i.zero.map (fun z=>z.cells.size),i.size,i.bytes))=some (some 3,3,24):=by kernel_rfl
 cases hi : Tryz.prog.info? 35 with
 | none=>rw [hi] at h;simp at h
 | some i =>
  rw [hi] at h
  simp only [Option.map_some,Option.some.injEq,Prod.mk.injEq] at h
  obtain ⟨h1,h2,h3⟩:=h
  cases hz : i.zero with
  | none=>rw [hz] at h1;simp at h1
  | some z =>
   rw [hz] at h1
   exact ⟨i,z,rfl,hz,h2,by simpa using h1,h3⟩
theorem i64_and3 (n : Int) : bits .and .i64 n 3=n % 4:=by
 have h3 : (BitVec.ofInt 64 3).toNat=2 ^ 2 - 1:=by decide
 have key : (BitVec.ofInt 64 n &&& BitVec.ofInt 64 3).toNat=(n % ((2 ^ 64 : Nat) : Int)).toNat % 2 ^ 2:=by
  rw [BitVec.toNat_and,BitVec.toNat_ofInt,h3,Nat.and_two_pow_sub_one_eq_mod]
 show IntKind.i64.wrap ((BitVec.ofInt 64 n &&& BitVec.ofInt 64 3).toNat : Nat)=n % 4
 rw [key,IntKind.wrap_i64]
 omega
theorem kindStep_ok (n : Int) : kindOk (wrap64 (1+bits BinOp.and IntKind.i64 n 3) % 256)=true:=by
 rw [i64_and3]
 unfold wrap64 kindOk
 simp only [Bool.and_eq_true,decide_eq_true_eq]
 omega
theorem Cls.first {w : World} {a : Option Addr} {cap : Nat} {c1 c2 : Cell} (h : Cls w (.slice a 2 cap) [c1,c2]) : Cls w (.slice a 1 cap) [c1]:=by
 obtain ⟨h1,a',cap',e,h3,h4,h5,h6⟩:=h
 cases e
 refine ⟨rfl,a,cap,rfl,by simp at h3 ⊢;omega,h4,h5,fun j u hj=>h6 j u ?_⟩
 have hj2 : (Cell.row c1)[j]? = some u:=by simpa using hj
 have hl:=(List.getElem?_eq_some_iff.1 hj2).1
 rw [List.flatMap_cons,List.getElem?_append_left hl]
 exact hj2
theorem same_memS {x y : Mem} {s u : Value} {w : World} (e : x=y) (hs : Als w s x.al) (hu : Als w u y.al) : Calls Tryz.prog 21 #[.agg #[s,.int .i64 x.next],.agg #[u,.int .i64 y.next]] w fun e w'=>e = .returned (.bool true)∧Ext w w':=by
 subst e
 exact ref26_Same hs hu
structure Pvb (w : World) (B PB : Nat) (pv : Value) (ps : List Ptr) : Prop where
 own : Own w B 35 3 pv ps.length (ps.flatMap Ptr.row)
 is : ∀ g,pv.ownBlock=some g→g=PB
 lt : PB < w.heap.size
theorem Pvb.but {S : Nat→Prop} {w w' : World} {B PB : Nat} {pv : Value} {ps : List Ptr} (h : Pvb w B PB pv ps) (hE : ExtBut S w w') (hS : ¬ S PB) : Pvb w' B PB pv ps :=
 ⟨ExtBut.own h.own hE (fun g hg=>by rw [h.is g hg];exact hS),h.is,Nat.lt_of_lt_of_le h.lt hE.size⟩
theorem Pvb.ext {w w' : World} {B PB : Nat} {pv : Value} {ps : List Ptr} (h : Pvb w B PB pv ps) (hE : Ext w w') : Pvb w' B PB pv ps:=h.but (ExtBut.of_ext (S:=fun _=>False) hE) (fun h=>h)
theorem Pvb.other {w : World} {B PB : Nat} {pv : Value} {ps : List Ptr} (h : Pvb w B PB pv ps) {p : Addr} (hp : p.block≠PB) (u : Value) : Pvb (w.setCell p u) B PB pv ps:=h.but (ExtBut.setCell w p u) (fun e=>hp e.symm)
theorem Pvb.far {w : World} {B PB b : Nat} {pv : Value} {ps : List Ptr} {T : TypeId} {vs : Array Value} (h : Pvb w B PB pv ps) (hb : Box w b T vs) (hT : T≠35) : pv.ownBlock≠some b:=fun e=>by
 have h1:=Own.ty h.own e
 have h2 : tyB w b=some T:=by simp only [tyB,show w.heap[b]? = _ from hb]
 rw [h2] at h1
 exact hT (by simpa using h1)
theorem Pvb.mem {w w' : World} {B PB B4 B5 : Nat} {pv : Value} {ps : List Ptr} {v4 v5 : Array Value} (h : Pvb w B PB pv ps) (b4 : Box w B4 30 v4) (b5 : Box w B5 26 v5) (hE : ExtBut (fun b=>b=B4∨b=B5∨False) w w') : Pvb w' B PB pv ps :=
 ⟨ExtBut.own h.own hE (fun g hg e=>by
  rcases e with rfl | rfl | e
  ·exact h.far b4 (by decide) hg
  ·exact h.far b5 (by decide) hg
  ·exact e),h.is,Nat.lt_of_lt_of_le h.lt hE.size⟩
theorem Pvb.push {w w0 w' : World} {B PB g : Nat} {pv v' : Value} {ps : List Ptr} {q : Ptr} (h : Pvb w B PB pv ps) (h0 : Ext w w0) (hO : Own w' B 35 3 v' (ps.length+1) (ps.flatMap Ptr.row ++ Ptr.row q)) (hK : Keeps w0 w' B pv)
  (hb : v'.ownBlock=pv.ownBlock ∨ ∃ g,v'.ownBlock=some g∧w0.heap.size≤g) (hg : v'.ownBlock=some g) :
  Pvb w' B g v' (ps ++ [q])∧ExtBut (fun b=>pv.ownBlock=some b) w w' ∧ ∀ (S : Nat→Prop) (R : World→Prop) (B4 B5 : Nat),Fq S w R→(∀ b,S b→b≠B4∧b≠B5∧b≠PB∧True)→Fq (fun b=>b≠B4∧b≠B5∧b≠g∧True) w' R:=by
 have hX : ExtBut (fun b=>pv.ownBlock=some b) w w':=(ExtBut.of_ext h0).trans (ExtBut.of_keeps hK)
 refine ⟨⟨?_,fun g' h' => ?_,(hO.lt hg).2⟩,hX,fun S R B4 B5 hR hS=>Fq.to hR hX (fun b h1 _ e=>(hS b h1).2.2.1 (h.is b e)) (fun b h1 hl=>⟨(hS b h1).1,(hS b h1).2.1,?_,trivial⟩)⟩
 ·rw [List.length_append,List.flatMap_append]
  simpa using hO
 ·rw [hg] at h';cases h';rfl
 ·rintro rfl
  rcases hb with e | ⟨g',e,hg'⟩
  ·exact (hS b h1).2.2.1 (h.is b (e.symm.trans hg))
  ·rw [hg] at e;cases e;have:=h0.size;omega
structure StepInv (wS : World) (B4 B5 : Nat) (k : Nat) (pv : Value) (wr : World) (m : Mon) (a : A3) (a5 : Option Addr) (c5 : Nat) (ps : List Ptr) (PB : Nat) : Prop where
 ok : okMon m=true
 few : Few m k
 b4 : Box wr B4 30 #[.slice a.a1 m.mem.al.length a.c1,.int .i64 m.mem.next,.slice a.a2 m.stks.length a.c2,.slice a.a3 m.run.length a.c3,.int .i64 m.tag,.int .i64 m.call]
 b5 : Box wr B5 26 #[.slice a5 m.mem.al.length c5,.int .i64 m.mem.next]
 mon : Fq (fun b=>b≠B4∧b≠B5∧b≠PB∧True) wr (RdA m a)
 mem : Fq (fun b=>b≠B4∧b≠B5∧b≠PB∧True) wr (fun w=>Als w (.slice a5 m.mem.al.length c5) m.mem.al)
 ptrs : Pvb wr wS.heap.size PB pv ps
 low : wS.heap.size≤PB
 plen : ps.length≤k
 ext : Ext wS wr
theorem StepInv.again {wS w : World} {B4 B5 PB k : Nat} {pv : Value} {m : Mon} {a : A3} {a5 : Option Addr} {c5 : Nat} {ps : List Ptr} {S : Nat→Prop} (hok : okMon m=true) (hf : Few m k)
  (b4 : Box w B4 30 #[.slice a.a1 m.mem.al.length a.c1,.int .i64 m.mem.next,.slice a.a2 m.stks.length a.c2,.slice a.a3 m.run.length a.c3,.int .i64 m.tag,.int .i64 m.call])
  (b5 : Box w B5 26 #[.slice a5 m.mem.al.length c5,.int .i64 m.mem.next]) (hm : Fq S w (RdA m a)) (hy : Fq S w (fun w=>Als w (.slice a5 m.mem.al.length c5) m.mem.al)) (hS : ∀ b,S b→b≠B4∧b≠B5∧b≠PB∧True)
  (hp : Pvb w wS.heap.size PB pv ps) (hl : wS.heap.size≤PB) (hk : ps.length≤k) (hE : Ext wS w) : StepInv wS B4 B5 (k+1) pv w m a a5 c5 ps PB :=
 ⟨hok,hf.mono (Nat.le_succ _),b4,b5,hm.mono (fun b h _=>hS b h),hy.mono (fun b h _=>hS b h),hp,hl,Nat.le_succ_of_le hk,hE⟩
def isStep (s : Int) : Prop:=s=0∨s=1∨s=2∨s=3∨s=4∨s=5∨s=6∨s=7
theorem isStep.em (s : Int) : Hid (isStep s)∨Hid (¬ isStep s):=by
 unfold isStep
 by_cases h : s=0∨s=1∨s=2∨s=3∨s=4∨s=5∨s=6∨s=7
 ·exact .inl (Hid.mk h)
 ·exact .inr (Hid.mk h)
theorem isStep.no {s : Int} (h : ¬ isStep s) : (s == 0)=false∧(s == 1)=false∧(s == 2)=false∧(s == 3)=false∧(s == 4)=false∧(s == 5)=false∧(s == 6)=false∧(s == 7)=false:=by
 unfold isStep at h
 refine ⟨?_,?_,?_,?_,?_,?_,?_,?_⟩ <;> exact beq_eq_false_iff_ne.2 (by omega)
def StepRes (MUT BX : Nat→Prop) (W : World) (BN BQ BA : Nat) (m : Mon) (k : Nat) (v13 v14 v16 : Value) (wx : World) : Prop := ∃ (x : Mon) (q : Ptr) (why e f : Int) (am : Mem) (a : A3) (a5 : Option Addr) (c5 : Nat),
 v13 = .int .u8 why∧v14 = .int .i64 e∧v16 = .int .i64 f∧StepOk m k x q why e am f ∧
 Box wx BN 30 #[.slice a.a1 x.mem.al.length a.c1,.int .i64 x.mem.next,.slice a.a2 x.stks.length a.c2,.slice a.a3 x.run.length a.c3,.int .i64 x.tag,.int .i64 x.call] ∧
 Box wx BQ 35 #[.int .i64 q.a,.int .i64 q.o,.int .i64 q.t]∧Box wx BA 26 #[.slice a5 am.al.length c5,.int .i64 am.next] ∧
 Fq MUT wx (RdA x a)∧Fq MUT wx (fun w=>Als w (.slice a5 am.al.length c5) am.al)∧ExtBut BX W wx
end Go.Proofs.YtoanoodfacmieaaGreatDoor

/- Contracts: the reference's Same and Great of layer 35. (printed by gen/ref35d.py) -/
namespace Go.Proofs.YtoanoodfacmieaaGreatDoor
set_option maxRecDepth 100000
open Go.RowKit
def notGreat (m : Mon) : Prop:=greatM m.mem.al=false∧m.stks.length≤410∧m.run.length≤50 ∧ ∀ x ∈ m.stks,greatK x.cells=false
theorem greatK_small {l : List (List Item)} (h : greatK l=false) : l.length≤4 ∧ ∀ s ∈ l,s.length≤2000:=by
 unfold greatK at h
 simp only [Bool.or_eq_false_iff,decide_eq_false_iff_not] at h
 refine ⟨by omega,fun s hs => ?_⟩
 have h1:=List.any_eq_false.1 h.1 s (by rw [List.take_of_length_le (by omega)];exact hs)
 simp [wideS] at h1
 omega
end Go.Proofs.YtoanoodfacmieaaGreatDoor

/- How a list of numbers among the arguments reads. -/
namespace Go.Proofs.YtoanoodfacmieaaGreatDoor
set_option maxRecDepth 100000
open Go.ChangeShapes Go.WideShapes Go.ChangeAt Go.RowKit
section
variable {H : Type} {enc : TypeId × Value→H} {w : World} {base : Nat} {spare : Nat→Bool} {held : Bool}
end
end Go.Proofs.YtoanoodfacmieaaGreatDoor

/- How the arguments of a statement read: monitors. -/
namespace Go.Proofs.YtoanoodfacmieaaGreatDoor
set_option maxRecDepth 100000
open Go.ChangeShapes Go.WideShapes Go.ChangeAt Go.RowKit
section
variable {H : Type} {enc : TypeId × Value→H} {w : World} {base : Nat} {spare : Nat→Bool} {held : Bool}
end
end Go.Proofs.YtoanoodfacmieaaGreatDoor

/- What the statements of layer 35 share. (printed by gen/law35a.py) -/
namespace Go.Proofs.YtoanoodfacmieaaGreatDoor
set_option maxRecDepth 100000
open Go.RowKit
theorem notGreat.small {m : Mon} (h : notGreat m) : small m.mem.al∧(m.stks.length≤1000000 ∧ ∀ x ∈ m.stks,x.cells.length≤1000000 ∧ ∀ s ∈ x.cells,s.length≤1000000)∧m.run.length≤1000000:=by
 obtain ⟨h1,h2,h3,h4⟩:=h
 refine ⟨?_,⟨by omega,fun x hx => ?_⟩,by omega⟩
 ·unfold greatM at h1
  simp only [Bool.or_eq_false_iff,decide_eq_false_iff_not] at h1
  refine ⟨by omega,fun a ha => ?_⟩
  have h5:=List.any_eq_false.1 h1.1 a (by rw [List.take_of_length_le (by omega)];exact ha)
  simp at h5
  omega
 ·have h5:=greatK_small (h4 x hx)
  exact ⟨by omega,fun s hs=>by have:=h5.2 s hs;omega⟩
end Go.Proofs.YtoanoodfacmieaaGreatDoor
