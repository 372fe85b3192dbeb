/- A region that draws its order, by what each operation leaves, under a relation of one's own between worlds (stores into fresh boxes too). -/
import Derived.Test.YtiikdpfbbcnplaaRegInw
namespace Go.Proofs.Ytiikdpfbbcnplaa
set_option maxRecDepth 100000
open Go

section
variable {P : Program} {ops : Array Oper} {Q : Exit → Act → World → Prop} {md : Region.Mode} {R : World → World → Prop}

structure PrR (R : World → World → Prop) where
  p : Value → World → Prop
  m : ∀ v w w', p v w → R w w' → p v w'
def PrR.eq (R : World → World → Prop) (u : Value) : PrR R := ⟨fun v _ => v = u, fun _ _ _ h _ => h⟩
def PrR.any (R : World → World → Prop) : PrR R := ⟨fun _ _ => True, fun _ _ _ h _ => h⟩
def prR (L : List (PrR R)) (i : Nat) (v : Value) (w : World) : Prop := match L[i]? with
  | some q => q.p v w
  | none => True
theorem prR_ext {L : List (PrR R)} {i : Nat} {v : Value} {w w' : World} (h : prR L i v w) (he : R w w') : prR L i v w' := by
  unfold prR at *
  cases hq : L[i]? with
  | none => trivial
  | some q => rw [hq] at h; exact q.m _ _ _ h he
/-- What an operation's slot holds. -/
def addrV (o : Oper) (a : Act) : Value := match o.op with
  | .store _ (.tmp t) _ => a.eval (.tmp t)
  | _ => undef
def slotV (ops : Array Oper) (a : Act) (i : Nat) : Value := match ops[i]? with
  | some o => (match o.dst with
    | some d => a.eval (.tmp d)
    | none => addrV o a)
  | none => undef

theorem fm_inj : ∀ (l : List Oper), (l.filterMap (·.dst)).Nodup → ∀ (i j : Nat) (o u : Oper) (d : Nat), l[i]? = some o → l[j]? = some u → o.dst = some d → u.dst = some d → i = j
  | [], _, i, j, o, u, d, hi, _, _, _ => by simp at hi
  | x :: l, hn, i, j, o, u, d, hi, hj, ho, hu => by
    have htl : (l.filterMap (·.dst)).Nodup := by
      cases hx : x.dst with
      | none => rwa [List.filterMap_cons_none hx] at hn
      | some e => rw [List.filterMap_cons_some hx] at hn; exact (List.nodup_cons.1 hn).2
    cases i with
    | zero =>
      cases j with
      | zero => rfl
      | succ j =>
        exfalso
        simp at hi; subst hi
        rw [List.filterMap_cons_some ho] at hn
        exact (List.nodup_cons.1 hn).1 (List.mem_filterMap.2 ⟨u, List.mem_of_getElem? (by simpa using hj), hu⟩)
    | succ i =>
      cases j with
      | zero =>
        exfalso
        simp at hj; subst hj
        rw [List.filterMap_cons_some hu] at hn
        exact (List.nodup_cons.1 hn).1 (List.mem_filterMap.2 ⟨o, List.mem_of_getElem? (by simpa using hi), ho⟩)
      | succ j => exact congrArg (· + 1) (fm_inj l htl i j o u d (by simpa using hi) (by simpa using hj) ho hu)
theorem putAll_fm (vals : Nat → Value) {t : Nat} : ∀ (l : List Oper) (k : Nat) (a : Act) (i : Nat) (o : Oper), (l.filterMap (·.dst)).Nodup → l[i]? = some o → o.dst = some t → t < a.tmps.size → (putAll vals l k a).tmps[t]? = some (vals (k + i))
  | [], _, _, _, _, _, h, _, _ => by simp at h
  | x :: l, k, a, 0, o, hn, ho, hd, ht => by
    simp at ho; subst ho
    rw [List.filterMap_cons_some hd] at hn
    rw [putAll, putAll_ne vals l _ _ (fun y hy e => (List.nodup_cons.1 hn).1 (List.mem_filterMap.2 ⟨y, hy, e⟩)), hd, put_eq _ _ ht]
    rfl
  | x :: l, k, a, i + 1, o, hn, ho, hd, ht => by
    have htl : (l.filterMap (·.dst)).Nodup := by
      cases hx : x.dst with
      | none => rwa [List.filterMap_cons_none hx] at hn
      | some e => rw [List.filterMap_cons_some hx] at hn; exact (List.nodup_cons.1 hn).2
    rw [putAll, putAll_fm vals l (k + 1) _ i o htl (by simpa using ho) hd (by rw [put_size]; exact ht), show k + 1 + i = k + (i + 1) by omega]

def pv (o : Oper) (a : Act) (v : Value) : Value := match o.dst with
  | some _ => v
  | none => addrV o a
def RR (ops : Array Oper) (R : World → World → Prop) (L : List (PrR R)) (a0 : Act) (w0 : World) (listed : Array Bool) (a : Act) (w : World) : Prop :=
  listed.size = ops.size ∧ a.defers = a0.defers ∧ a.tmps.size = a0.tmps.size ∧ (∀ t, (∀ o ∈ ops.toList, o.dst ≠ some t) → a.tmps[t]? = a0.tmps[t]?) ∧ (∀ i, listed.getD i false = true → prR L i (slotV ops a i) w) ∧ R w0 w ∧ (∀ (i : Nat) (o : Oper), ops[i]? = some o → listed.getD i false = true → ∀ e ∈ o.after, Region.binds .any e = true → listed.getD e.on false = true)
def regOR (md : Region.Mode) (ops : Array Oper) (n : Nat) : Bool :=
  (ops.toList.all fun o => match o.dst with | some d => decide (d < n) | none => true) && decide ((ops.toList.filterMap (·.dst)).Nodup)
  && ((List.range ops.size).all fun i => ((ops[i]?).map fun o => o.after.all fun e => !Region.binds md e || decide (e.on < i)).getD true)
  && (ops.toList.all fun o => match o.op with
    | .store _ (.tmp t) _ => (List.range ops.size).all fun k => (((ops[k]?).map fun u => u.dst != some t).getD true) || (o.after.any fun e => Region.binds md e && e.on == k)
    | _ => true)
def StepR (P : Program) (md : Region.Mode) (ops : Array Oper) (Q : Exit → Act → World → Prop) (R : World → World → Prop) (L : List (PrR R)) (a0 : Act) (w0 : World) (i : Nat) (o : Oper) : Prop :=
  ∀ (a : Act) (w : World), R w0 w → (∀ j, (o.after.any fun e => Region.binds md e && e.on == j) = true → prR L j (slotV ops a j) w) →
    (∀ t, ops.toList.all (fun o => o.dst != some t) = true → a.eval (.tmp t) = a0.eval (.tmp t)) →
    (Region.wanted o (yielded ops a.tmps) = true ∧ ∀ K : Act → World → Prop, (∀ v w', prR L i (pv o a v) w' → R w w' → K (a.put o.dst v) w') → o.wp P a w K Q) ∨ (Region.wanted o (yielded ops a.tmps) = false ∧ prR L i (pv o a undef) w)

theorem wp_region_rel {id : Nat} {a0 : Act} {w0 : World} (hr : ∀ w, R w w) (ht : ∀ a b c, R a b → R b c → R a c) (L : List (PrR R)) (hm : P.follows .mixedOrders = true) (hok : regOR .any ops a0.tmps.size = true)
    (hs : AllSteps (StepR P .any ops Q R L a0 w0.drew) ops.toList 0)
    (he : ∀ (vals : Nat → Value) (A : Act) (w : World), A = putAll vals ops.toList 0 a0 → R w0.drew w → (∀ i, i < ops.size → prR L i (vals i) w) → (∀ i, vals i = slotV ops A i) → Q .normal A w) :
    (Code.region id ops true).wp P Q a0 w0 := by
  unfold regOR at hok
  simp only [Bool.and_eq_true, decide_eq_true_eq] at hok
  obtain ⟨⟨⟨h1, h2⟩, h3⟩, h4⟩ := hok
  have hdst : ∀ (i : Nat) (o : Oper) (d : Nat), ops[i]? = some o → o.dst = some d → d < a0.tmps.size := by
    intro i o d ho hd
    have hm' : o ∈ ops.toList := by rw [Array.mem_toList_iff]; exact Array.mem_of_getElem? ho
    have := List.all_eq_true.1 h1 o hm'
    rw [hd] at this
    simpa using this
  have hafter : ∀ (i : Nat) (o : Oper), ops[i]? = some o → ∀ e ∈ o.after, Region.binds .any e = true → e.on < i := by
    intro i o ho e hea hb
    have hi := (Array.getElem?_eq_some_iff.1 ho).1
    have := List.all_eq_true.1 h3 i (List.mem_range.2 hi)
    rw [ho] at this
    simp only [Option.map_some, Option.getD_some, Array.all_eq_true_iff_forall_mem] at this
    have := this e hea
    simpa [hb] using this
  have hinj : ∀ (i j : Nat) (o u : Oper) (d : Nat), ops[i]? = some o → ops[j]? = some u → o.dst = some d → u.dst = some d → i = j := fun i j o u d hi hj ho hu =>
    fm_inj ops.toList h2 i j o u d (by rw [Array.getElem?_toList]; exact hi) (by rw [Array.getElem?_toList]; exact hj) ho hu
  refine wp_region_any hm (wpAny_inv (I := RR ops R L a0 w0.drew) ?_ ?_ _ _ _ _ (by unfold unl; refine Nat.le_trans (List.length_filter_le _ _) (by simp)) ?_)
  · intro listed a w i ⟨r1, r2, r3, r4, r5, r6, r7⟩ hi
    obtain ⟨g1, o, ho, g2⟩ := mem_ready.1 hi
    have hst := AllSteps.get (i := i) hs (by rw [Array.getElem?_toList]; exact ho)
    rw [Nat.zero_add] at hst
    have hput : ∀ v w', prR L i (pv o a v) w' → R w w' → RR ops R L a0 w0.drew (listed.setIfInBounds i true) (a.put o.dst v) w' := by
      intro v w' hv hE
      refine ⟨by simpa using r1, by rw [put_def]; exact r2, by rw [put_size]; exact r3, fun t ht => ?_, fun j hj => ?_, ht _ _ _ r6 hE, fun j u hu hj e he1 he2 => ?_⟩
      · rw [put_ne _ _ (ht o (by rw [Array.mem_toList_iff]; exact Array.mem_of_getElem? ho))]
        exact r4 t ht
      · by_cases e : j = i
        · subst e
          unfold slotV
          unfold pv at hv
          rw [ho]
          cases hd : o.dst with
          | none => rw [hd] at hv; simp only [hd]; exact hv
          | some d =>
            rw [hd] at hv
            simp only [hd]
            show prR L j ((a.put (some d) v).eval (.tmp d)) w'
            rw [eval_tmp, put_eq _ _ (by rw [r3]; exact hdst j o d ho hd)]
            exact hv
        · rw [getD_set_ne false (fun e' => e e'.symm)] at hj
          have h5 := prR_ext (r5 j hj) hE
          have : slotV ops (a.put o.dst v) j = slotV ops a j := by
            unfold slotV
            cases hu : ops[j]? with
            | none => rfl
            | some u =>
              cases hd' : u.dst with
              | none =>
                simp only [hd']
                unfold addrV
                split
                · rename_i t x hop
                  have hne : o.dst ≠ some t := by
                    intro ho2
                    have hmu : u ∈ ops.toList := by rw [Array.mem_toList_iff]; exact Array.mem_of_getElem? hu
                    have h6 := List.all_eq_true.1 h4 u hmu
                    rw [hop] at h6
                    have h7 := List.all_eq_true.1 h6 i (List.mem_range.2 (Array.getElem?_eq_some_iff.1 ho).1)
                    rw [ho] at h7
                    simp only [Option.map_some, Option.getD_some, Bool.or_eq_true, bne_iff_ne, ne_eq, ho2, not_true_eq_false, false_or] at h7
                    obtain ⟨e3, he3, he4⟩ := Array.any_eq_true'.1 h7
                    simp only [Bool.and_eq_true, beq_iff_eq] at he4
                    have h8 := r7 j u hu hj e3 he3 he4.1
                    rw [he4.2] at h8
                    have hsz : i < listed.size := by rw [r1]; exact (Array.getElem?_eq_some_iff.1 ho).1
                    simp [hsz] at h8 g1
                    rw [g1] at h8
                    cases h8
                  show (a.put o.dst v).eval (.tmp t) = a.eval (.tmp t)
                  rw [eval_tmp, eval_tmp, put_ne _ _ hne]
                · rfl
              | some d' =>
                simp only [hd']
                show (a.put o.dst v).eval (.tmp d') = a.eval (.tmp d')
                rw [eval_tmp, eval_tmp, put_ne _ _ (fun e' => e (hinj j i u o d' hu ho hd' e'))]
          rw [this]
          exact h5
      · have hsz : i < listed.size := by rw [r1]; exact (Array.getElem?_eq_some_iff.1 ho).1
        have key : listed.getD e.on false = true := by
          by_cases e' : j = i
          · subst e'
            rw [ho] at hu
            cases hu
            exact g2 e he1 he2
          · rw [getD_set_ne false (fun h => e' h.symm)] at hj
            exact r7 j u hu hj e he1 he2
        by_cases e2 : e.on = i
        · rw [e2]; simp [hsz]
        · rw [getD_set_ne false (fun h => e2 h.symm)]
          exact key
    have hdep := hst a w r6 (fun j hj => by
      obtain ⟨e, he1, he2⟩ := Array.any_eq_true'.1 hj
      simp only [Bool.and_eq_true, beq_iff_eq] at he2
      have := g2 e he1 he2.1
      rw [he2.2] at this
      exact r5 j this) (fun t ht => by
      have := r4 t (fun o ho' => by simpa using List.all_eq_true.1 ht o ho')
      rw [eval_tmp, eval_tmp, this])
    unfold wpOp
    simp only [ho]
    rcases hdep with ⟨hw, h⟩ | ⟨hw, h⟩
    · rw [if_pos hw]
      exact .inl (h _ hput)
    · rw [if_neg (by rw [hw]; simp)]
      exact hput _ _ h (hr _)
  · intro listed a w ⟨r1, r2, r3, r4, r5, r6, _r7⟩ hrd
    have hall : ∀ n i, i < n → i < ops.size → listed.getD i false = true := by
      intro n
      induction n with
      | zero => intro i h; omega
      | succ n ih =>
        intro i hi his
        cases hli : listed.getD i true
        · exfalso
          obtain ⟨o, ho⟩ : ∃ o, ops[i]? = some o := ⟨ops[i], by simp [his]⟩
          have : i ∈ Region.ready .any ops listed := mem_ready.2 ⟨hli, o, ho, fun e he1 he2 => by
            have := hafter i o ho e he1 he2
            exact ih _ (by omega) (by omega)⟩
          rw [hrd] at this
          cases this
        · have hsz : i < listed.size := by rw [r1]; exact his
          simpa [hsz] using hli
    have : putAll (fun i => slotV ops a i) ops.toList 0 a0 = a := by
      have e1 : (putAll (fun i => slotV ops a i) ops.toList 0 a0).tmps = a.tmps := by
        apply Array.ext_getElem?
        intro t
        by_cases hx : ∃ o ∈ ops.toList, o.dst = some t
        · obtain ⟨o, hom, hd⟩ := hx
          obtain ⟨i, hi⟩ := List.mem_iff_getElem?.1 hom
          have ho : ops[i]? = some o := by rw [← Array.getElem?_toList]; exact hi
          have hdn := hdst i o t ho hd
          rw [putAll_fm _ ops.toList 0 a0 i o h2 hi hd hdn, Nat.zero_add]
          unfold slotV
          rw [ho]
          simp only [hd]
          show some (a.eval (.tmp t)) = _
          rw [eval_tmp, Array.getElem?_eq_getElem (by rw [r3]; exact hdn)]
          rfl
        · have hx' : ∀ o ∈ ops.toList, o.dst ≠ some t := fun o h1 h2 => hx ⟨o, h1, h2⟩
          rw [putAll_ne _ _ _ _ hx', r4 t hx']
      have e2 := putAll_def (fun i => slotV ops a i) ops.toList 0 a0
      rw [← r2] at e2
      cases a
      cases hp : putAll (fun i => _) ops.toList 0 a0
      simp_all
    exact he (fun i => slotV ops a i) a w this.symm r6 (fun i hi => r5 i (hall _ i (Nat.lt_succ_self i) hi)) (fun i => rfl)
  · refine ⟨by simp, rfl, rfl, fun _ _ => rfl, fun i hi => ?_, hr _, fun i o _ hi => ?_⟩ <;> (exfalso; by_cases h : i < ops.size <;> simp [h] at hi)

end

end Go.Proofs.Ytiikdpfbbcnplaa
