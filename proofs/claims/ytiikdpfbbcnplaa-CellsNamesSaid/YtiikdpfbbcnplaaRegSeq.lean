/- A region in the text's order, by what each operation leaves in its slot, guards included. -/
import Derived.Test.YtiikdpfbbcnplaaRegInw
namespace Go.Proofs.Ytiikdpfbbcnplaa
set_option maxRecDepth 100000
open Go

section
variable {P : Program} {ops : Array Oper} {Q : Exit → Act → World → Prop}

def SI (ops : Array Oper) (L : List Pr) (a0 : Act) (w0 : World) (n : Nat) (a : Act) (w : World) : Prop :=
  a.defers = a0.defers ∧ a.tmps.size = a0.tmps.size ∧ (∀ t, (∀ o ∈ ops.toList, o.dst ≠ some t) → a.tmps[t]? = a0.tmps[t]?) ∧ (∀ i, i < n → i < ops.size → prAt L i (a.eval (.tmp (dstOf ops i))) w) ∧ Ext w0 w

theorem wp_region_seq {id : Nat} {a0 : Act} {w0 : World} (L : List Pr) (hok : regOG .any ops a0.tmps.size = true)
    (hs : AllSteps (StepGo P .any ops Q L a0 w0) ops.toList 0)
    (he : ∀ (vals : Nat → Value) (w : World), Ext w0 w → (∀ i, i < ops.size → prAt L i (vals i) w) → Q .normal (putAll vals ops.toList 0 a0) w) :
    (Code.region id ops false).wp P Q a0 w0 := by
  unfold regOG at hok
  simp only [Bool.and_eq_true, decide_eq_true_eq] at hok
  obtain ⟨⟨h1, h2⟩, h3⟩ := hok
  have hdst : ∀ (i : Nat) (o : Oper), ops[i]? = some o → ∃ d, o.dst = some d ∧ d < a0.tmps.size := by
    intro i o ho
    have hm' : o ∈ ops.toList := by rw [Array.mem_toList_iff]; exact Array.mem_of_getElem? ho
    have := List.all_eq_true.1 h1 o hm'
    cases hd : o.dst with
    | none => rw [hd] at this; simp at this
    | some d => rw [hd] at this; exact ⟨d, rfl, by simpa using this⟩
  have hafter : ∀ (i : Nat) (o : Oper), ops[i]? = some o → ∀ e ∈ o.after, Region.binds .any e = true → e.on < i := by
    intro i o ho e hea hb
    have hi := (Array.getElem?_eq_some_iff.1 ho).1
    have := List.all_eq_true.1 h3 i (List.mem_range.2 hi)
    rw [ho] at this
    simp only [Option.map_some, Option.getD_some, Array.all_eq_true_iff_forall_mem] at this
    have := this e hea
    simpa [hb] using this
  have hinj : ∀ (i j : Nat) (o u : Oper), ops[i]? = some o → ops[j]? = some u → o.dst = u.dst → i = j := by
    intro i j o u hi hj hd
    have hi' : (ops.toList.map (·.dst))[i]? = some o.dst := by rw [List.getElem?_map, Array.getElem?_toList, hi]; rfl
    have hj' : (ops.toList.map (·.dst))[j]? = some o.dst := by rw [List.getElem?_map, Array.getElem?_toList, hj, hd]; rfl
    exact (List.getElem?_inj (by rw [List.length_map, Array.length_toList]; exact (Array.getElem?_eq_some_iff.1 hi).1) h2).1 (hi'.trans hj'.symm)
  have key : ∀ (m n : Nat), n + m = ops.size → ∀ (a : Act) (w : World), SI ops L a0 w0 n a w → wpList P ops Q (ops.toList.drop n) a w := by
    intro m
    induction m with
    | zero =>
      intro n hn a w ⟨r2, r3, r4, r5, r6⟩
      rw [List.drop_of_length_le (by simp; omega)]
      have hv := he (fun i => a.eval (.tmp (dstOf ops i))) w r6 (fun i hi => r5 i (by omega) hi)
      have : putAll (fun i => a.eval (.tmp (dstOf ops i))) ops.toList 0 a0 = a := by
        have e1 : (putAll (fun i => a.eval (.tmp (dstOf ops i))) ops.toList 0 a0).tmps = a.tmps := by
          apply Array.ext_getElem?
          intro t
          by_cases hx : ∃ o ∈ ops.toList, o.dst = some t
          · obtain ⟨o, hom, hd⟩ := hx
            obtain ⟨i, hi⟩ := List.mem_iff_getElem?.1 hom
            have ho : ops[i]? = some o := by rw [← Array.getElem?_toList]; exact hi
            obtain ⟨d, hd', hdn⟩ := hdst i o ho
            rw [hd] at hd'
            cases hd'
            rw [putAll_eq _ ops.toList 0 a0 i o h2 hi hd hdn, Nat.zero_add]
            show some (a.eval (.tmp (dstOf ops i))) = _
            unfold dstOf
            rw [ho, Option.bind_some, hd, Option.getD_some, eval_tmp, Array.getElem?_eq_getElem (by rw [r3]; exact hdn)]
            rfl
          · have hx' : ∀ o ∈ ops.toList, o.dst ≠ some t := fun o h1 h2 => hx ⟨o, h1, h2⟩
            rw [putAll_ne _ _ _ _ hx', r4 t hx']
        have e2 := putAll_def (fun i => a.eval (.tmp (dstOf ops i))) ops.toList 0 a0
        rw [← r2] at e2
        cases a
        cases hp : putAll (fun i => _) ops.toList 0 a0
        simp_all
      rw [this] at hv
      exact hv
    | succ m ih =>
      intro n hn a w ⟨r2, r3, r4, r5, r6⟩
      have hnl : n < ops.toList.length := by simp; omega
      obtain ⟨o, ho⟩ : ∃ o, ops[n]? = some o := ⟨ops[n]'(by omega), by simp [show n < ops.size by omega]⟩
      have hol : ops.toList[n] = o := by
        have : ops.toList[n]? = some o := by rw [Array.getElem?_toList]; exact ho
        rw [List.getElem?_eq_getElem hnl] at this
        exact Option.some.inj this
      rw [List.drop_eq_getElem_cons hnl, hol]
      obtain ⟨d, hd, hdn⟩ := hdst n o ho
      have hst := AllSteps.get (i := n) hs (by rw [Array.getElem?_toList]; exact ho)
      rw [Nat.zero_add] at hst
      have hput : ∀ v w', prAt L n v w' → Ext w w' → SI ops L a0 w0 (n + 1) (a.put o.dst v) w' := by
        intro v w' hv hE
        refine ⟨by rw [put_def]; exact r2, by rw [put_size]; exact r3, fun t ht => ?_, fun j hj hjs => ?_, r6.trans hE⟩
        · rw [put_ne _ _ (ht o (by rw [Array.mem_toList_iff]; exact Array.mem_of_getElem? ho))]
          exact r4 t ht
        · by_cases e : j = n
          · subst e
            have : (a.put o.dst v).eval (.tmp (dstOf ops j)) = v := by
              unfold dstOf
              rw [ho, Option.bind_some, hd, Option.getD_some, eval_tmp, put_eq _ _ (by rw [r3]; exact hdn)]
              rfl
            rw [this]
            exact hv
          · have h5 := prAt_ext (r5 j (by omega) hjs) hE
            obtain ⟨u, hu⟩ : ∃ u, ops[j]? = some u := ⟨ops[j], by simp [hjs]⟩
            obtain ⟨d', hd', -⟩ := hdst j u hu
            have : (a.put o.dst v).eval (.tmp (dstOf ops j)) = a.eval (.tmp (dstOf ops j)) := by
              unfold dstOf
              rw [hu, Option.bind_some, hd', Option.getD_some, eval_tmp, eval_tmp, put_ne _ _ (fun e' => e (hinj j n u o hu ho (by rw [hd', e'])))]
            rw [this]
            exact h5
      have hdep : (Region.wanted o (yielded ops a.tmps) = true ∧ ∀ K : Act → World → Prop, (∀ v w', prAt L n v w' → Ext w w' → K (a.put o.dst v) w') → o.wp P a w K Q) ∨ (Region.wanted o (yielded ops a.tmps) = false ∧ prAt L n undef w) := by
        refine hst a w r6 (fun j hj => ?_) (fun t ht => ?_)
        · obtain ⟨e, he1, he2⟩ := Array.any_eq_true'.1 hj
          simp only [Bool.and_eq_true, beq_iff_eq] at he2
          have := hafter n o ho e he1 he2.1
          rw [he2.2] at this
          exact r5 j this (by omega)
        · have := r4 t (fun o ho' => by simpa using List.all_eq_true.1 ht o ho')
          rw [eval_tmp, eval_tmp, this]
      unfold wpList
      rcases hdep with ⟨hw, h⟩ | ⟨hw, h⟩
      · rw [if_pos hw]
        exact .inl (h _ fun v w' hv hE => ih (n + 1) (by omega) _ _ (hput v w' hv hE))
      · rw [if_neg (by rw [hw]; simp)]
        exact ih (n + 1) (by omega) _ _ (hput _ _ h (Ext.refl _))
  refine wp_region_list ?_
  have := key ops.size 0 (by omega) a0 w0 ⟨rfl, rfl, fun _ _ => rfl, fun i h => by omega, Ext.refl _⟩
  simpa using this
end

end Go.Proofs.Ytiikdpfbbcnplaa
