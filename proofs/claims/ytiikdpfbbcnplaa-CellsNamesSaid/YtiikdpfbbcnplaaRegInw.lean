/- A region that draws its order, by what each operation leaves in its slot, guards included. -/
import Derived.Test.YtiikdpfbbcnplaaRegInv
namespace Go.Proofs.Ytiikdpfbbcnplaa
set_option maxRecDepth 100000
open Go

section
variable {P : Program} {ops : Array Oper} {Q : Exit → Act → World → Prop} {md : Region.Mode}

def regOG (md : Region.Mode) (ops : Array Oper) (n : Nat) : Bool :=
  (ops.toList.all fun o => match o.dst with | some d => decide (d < n) | none => false) && decide ((ops.toList.map (·.dst)).Nodup)
  && ((List.range ops.size).all fun i => ((ops[i]?).map fun o => o.after.all fun e => !Region.binds md e || decide (e.on < i)).getD true)
theorem wanted_by {o : Oper} {a : Act} {k : Nat} {b : Bool} (d : Nat) (hg : o.guard = some (k, b)) (hd : (ops[k]?).bind (·.dst) = some d) (hv : a.eval (.tmp d) = .bool b) : Region.wanted o (yielded ops a.tmps) = true := by
  rw [eval_tmp] at hv
  have : a.tmps[d]? = some (.bool b) := by
    cases h : a.tmps[d]? with
    | none => rw [h] at hv; cases hv
    | some v => rw [h] at hv; exact congrArg some hv
  simp [Region.wanted, hg, yielded, hd, this]

/-- What one operation must be shown to do. -/
def StepGo (P : Program) (md : Region.Mode) (ops : Array Oper) (Q : Exit → Act → World → Prop) (L : List Pr) (a0 : Act) (w0 : World) (i : Nat) (o : Oper) : Prop :=
  ∀ (a : Act) (w : World), Ext w0 w → (∀ j, (o.after.any fun e => Region.binds md e && e.on == j) = true → prAt L j (a.eval (.tmp (dstOf ops j))) w) →
    (∀ t, ops.toList.all (fun o => o.dst != some t) = true → a.eval (.tmp t) = a0.eval (.tmp t)) →
    (Region.wanted o (yielded ops a.tmps) = true ∧ ∀ K : Act → World → Prop, (∀ v w', prAt L i v w' → Ext w w' → K (a.put o.dst v) w') → o.wp P a w K Q) ∨ (Region.wanted o (yielded ops a.tmps) = false ∧ prAt L i undef w)

theorem wp_region_go {id : Nat} {a0 : Act} {w0 : World} (L : List Pr) (hm : P.follows .mixedOrders = true) (hok : regOG .any ops a0.tmps.size = true)
    (hs : AllSteps (StepGo P .any ops Q L a0 w0.drew) ops.toList 0)
    (he : ∀ (vals : Nat → Value) (w : World), Ext w0.drew w → (∀ i, i < ops.size → prAt L i (vals i) w) → Q .normal (putAll vals ops.toList 0 a0) w) :
    (Code.region id ops true).wp P Q a0 w0 := by
  unfold regOG at hok
  simp only [Bool.and_eq_true, decide_eq_true_eq] at hok
  obtain ⟨⟨h1, h2⟩, h3⟩ := hok
  have hdst : ∀ (i : Nat) (o : Oper), ops[i]? = some o → ∃ d, o.dst = some d ∧ d < a0.tmps.size := by
    intro i o ho
    have hm' : o ∈ ops.toList := by rw [Array.mem_toList_iff]; exact Array.mem_of_getElem? ho
    have := List.all_eq_true.1 h1 o hm'
    cases hd : o.dst with
    | none => rw [hd] at this; simp at this
    | some d => rw [hd] at this; exact ⟨d, rfl, by simpa using this⟩
  have hafter : ∀ (i : Nat) (o : Oper), ops[i]? = some o → ∀ e ∈ o.after, Region.binds .any e = true → e.on < i := by
    intro i o ho e hea hb
    have hi := (Array.getElem?_eq_some_iff.1 ho).1
    have := List.all_eq_true.1 h3 i (List.mem_range.2 hi)
    rw [ho] at this
    simp only [Option.map_some, Option.getD_some, Array.all_eq_true_iff_forall_mem] at this
    have := this e hea
    simpa [hb] using this
  have hinj : ∀ (i j : Nat) (o u : Oper), ops[i]? = some o → ops[j]? = some u → o.dst = u.dst → i = j := by
    intro i j o u hi hj hd
    have hi' : (ops.toList.map (·.dst))[i]? = some o.dst := by rw [List.getElem?_map, Array.getElem?_toList, hi]; rfl
    have hj' : (ops.toList.map (·.dst))[j]? = some o.dst := by rw [List.getElem?_map, Array.getElem?_toList, hj, hd]; rfl
    exact (List.getElem?_inj (by rw [List.length_map, Array.length_toList]; exact (Array.getElem?_eq_some_iff.1 hi).1) h2).1 (hi'.trans hj'.symm)
  refine wp_region_any hm (wpAny_inv (I := RI ops L a0 w0.drew) ?_ ?_ _ _ _ _ (by unfold unl; refine Nat.le_trans (List.length_filter_le _ _) (by simp)) ?_)
  · intro listed a w i ⟨r1, r2, r3, r4, r5, r6⟩ hi
    obtain ⟨g1, o, ho, g2⟩ := mem_ready.1 hi
    obtain ⟨d, hd, hdn⟩ := hdst i o ho
    have hst := AllSteps.get (i := i) hs (by rw [Array.getElem?_toList]; exact ho)
    rw [Nat.zero_add] at hst
    have hput : ∀ v w', prAt L i v w' → Ext w w' → RI ops L a0 w0.drew (listed.setIfInBounds i true) (a.put o.dst v) w' := by
      intro v w' hv hE
      refine ⟨by simpa using r1, by rw [put_def]; exact r2, by rw [put_size]; exact r3, fun t ht => ?_, fun j hj => ?_, r6.trans hE⟩
      · rw [put_ne _ _ (ht o (by rw [Array.mem_toList_iff]; exact Array.mem_of_getElem? ho))]
        exact r4 t ht
      · by_cases e : j = i
        · subst e
          have : (a.put o.dst v).eval (.tmp (dstOf ops j)) = v := by
            unfold dstOf
            rw [ho, Option.bind_some, hd, Option.getD_some, eval_tmp, put_eq _ _ (by rw [r3]; exact hdn)]
            rfl
          rw [this]
          exact hv
        · rw [getD_set_ne false (fun e' => e e'.symm)] at hj
          have h5 := prAt_ext (r5 j hj) hE
          have hjs : j < ops.size := by
            rcases Nat.lt_or_ge j listed.size with h | h
            · rw [← r1]; exact h
            · simp [Array.getElem?_eq_none h] at hj
          obtain ⟨u, hu⟩ : ∃ u, ops[j]? = some u := ⟨ops[j], by simp [hjs]⟩
          obtain ⟨d', hd', -⟩ := hdst j u hu
          have : (a.put o.dst v).eval (.tmp (dstOf ops j)) = a.eval (.tmp (dstOf ops j)) := by
            unfold dstOf
            rw [hu, Option.bind_some, hd', Option.getD_some, eval_tmp, eval_tmp, put_ne _ _ (fun e' => e (hinj j i u o hu ho (by rw [hd', e'])))]
          rw [this]
          exact h5
    have hdep : (Region.wanted o (yielded ops a.tmps) = true ∧ ∀ K : Act → World → Prop, (∀ v w', prAt L i v w' → Ext w w' → K (a.put o.dst v) w') → o.wp P a w K Q) ∨ (Region.wanted o (yielded ops a.tmps) = false ∧ prAt L i undef w) := by
      refine hst a w r6 (fun j hj => ?_) (fun t ht => ?_)
      · obtain ⟨e, he1, he2⟩ := Array.any_eq_true'.1 hj
        simp only [Bool.and_eq_true, beq_iff_eq] at he2
        have := g2 e he1 he2.1
        rw [he2.2] at this
        exact r5 j this
      · have := r4 t (fun o ho' => by simpa using List.all_eq_true.1 ht o ho')
        rw [eval_tmp, eval_tmp, this]
    unfold wpOp
    simp only [ho]
    rcases hdep with ⟨hw, h⟩ | ⟨hw, h⟩
    · rw [if_pos hw]
      exact .inl (h _ hput)
    · rw [if_neg (by rw [hw]; simp)]
      exact hput _ _ h (Ext.refl _)
  · intro listed a w ⟨r1, r2, r3, r4, r5, r6⟩ hr
    have hall : ∀ n i, i < n → i < ops.size → listed.getD i false = true := by
      intro n
      induction n with
      | zero => intro i h; omega
      | succ n ih =>
        intro i hi his
        cases hli : listed.getD i true
        · exfalso
          obtain ⟨o, ho⟩ : ∃ o, ops[i]? = some o := ⟨ops[i], by simp [his]⟩
          have : i ∈ Region.ready .any ops listed := mem_ready.2 ⟨hli, o, ho, fun e he1 he2 => by
            have := hafter i o ho e he1 he2
            exact ih _ (by omega) (by omega)⟩
          rw [hr] at this
          cases this
        · have hsz : i < listed.size := by rw [r1]; exact his
          simpa [hsz] using hli
    have hv := he (fun i => a.eval (.tmp (dstOf ops i))) w r6 (fun i hi => r5 i (hall _ i (Nat.lt_succ_self i) hi))
    have : putAll (fun i => a.eval (.tmp (dstOf ops i))) ops.toList 0 a0 = a := by
      have e1 : (putAll (fun i => a.eval (.tmp (dstOf ops i))) ops.toList 0 a0).tmps = a.tmps := by
        apply Array.ext_getElem?
        intro t
        by_cases hx : ∃ o ∈ ops.toList, o.dst = some t
        · obtain ⟨o, hom, hd⟩ := hx
          obtain ⟨i, hi⟩ := List.mem_iff_getElem?.1 hom
          have ho : ops[i]? = some o := by rw [← Array.getElem?_toList]; exact hi
          obtain ⟨d, hd', hdn⟩ := hdst i o ho
          rw [hd] at hd'
          cases hd'
          rw [putAll_eq _ ops.toList 0 a0 i o h2 hi hd hdn, Nat.zero_add]
          show some (a.eval (.tmp (dstOf ops i))) = _
          unfold dstOf
          rw [ho, Option.bind_some, hd, Option.getD_some, eval_tmp, Array.getElem?_eq_getElem (by rw [r3]; exact hdn)]
          rfl
        · have hx' : ∀ o ∈ ops.toList, o.dst ≠ some t := fun o h1 h2 => hx ⟨o, h1, h2⟩
          rw [putAll_ne _ _ _ _ hx', r4 t hx']
      have e2 := putAll_def (fun i => a.eval (.tmp (dstOf ops i))) ops.toList 0 a0
      rw [← r2] at e2
      cases a
      cases hp : putAll (fun i => _) ops.toList 0 a0
      simp_all
    rw [this] at hv
    exact hv
  · refine ⟨by simp, rfl, rfl, fun _ _ => rfl, fun i hi => ?_, Ext.refl _⟩
    by_cases h : i < ops.size <;> simp [h] at hi
end

end Go.Proofs.Ytiikdpfbbcnplaa
