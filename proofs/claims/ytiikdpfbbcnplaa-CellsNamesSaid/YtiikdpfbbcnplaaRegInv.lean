/- A region that draws its order, by what each operation leaves in its slot: no order is gone through. -/
import Derived.Test.YtiikdpfbbcnplaaLib
import Derived.Orders
namespace Go.Proofs.Ytiikdpfbbcnplaa
set_option maxRecDepth 100000
open Go

section
variable {P : Program} {ops : Array Oper} {Q : Exit → Act → World → Prop} {md : Region.Mode}

theorem filter_lt {α : Type} {p q : α → Bool} (h : ∀ x, q x = true → p x = true) : ∀ (l : List α) (x : α), x ∈ l → p x = true → q x = false → (l.filter q).length < (l.filter p).length
  | y :: l, x, hx, hp, hq => by
    have hle : (l.filter q).length ≤ (l.filter p).length := by
      clear hx
      induction l with
      | nil => simp
      | cons z l ih =>
        simp only [List.filter_cons]
        cases hz : q z
        · cases hz' : p z
          · simpa using ih
          · simp; omega
        · rw [h z hz]; simpa using ih
    rcases List.mem_cons.1 hx with rfl | hm
    · simp only [List.filter_cons, hp, hq]
      simp; omega
    · have ih := filter_lt h l x hm hp hq
      simp only [List.filter_cons]
      cases hy : q y
      · cases hy' : p y
        · simpa using ih
        · simp; omega
      · rw [h y hy]; simpa using ih

def unl (ops : Array Oper) (listed : Array Bool) : Nat := ((List.range ops.size).filter fun i => !listed.getD i true).length

theorem wpAny_inv {I : Array Bool → Act → World → Prop}
    (hs : ∀ listed a w i, I listed a w → i ∈ Region.ready md ops listed → wpOp P ops Q i (I (listed.setIfInBounds i true)) a w)
    (he : ∀ listed a w, I listed a w → Region.ready md ops listed = [] → Q .normal a w) :
    ∀ (fuel : Nat) (listed : Array Bool) (a : Act) (w : World), unl ops listed ≤ fuel → I listed a w → wpAny P md ops Q fuel listed a w
  | 0, listed, a, w, hu, hI => by
    have h0 : Region.ready md ops listed = [] := by
      apply List.eq_nil_iff_forall_not_mem.2
      intro i hi
      obtain ⟨h1, o, ho, -⟩ := mem_ready.1 hi
      have hm : i ∈ (List.range ops.size).filter fun i => !listed.getD i true := List.mem_filter.2 ⟨List.mem_range.2 (Array.getElem?_eq_some_iff.1 ho).1, by rw [h1]; rfl⟩
      have := List.length_pos_of_mem hm
      unfold unl at hu
      omega
    exact ⟨h0, he _ _ _ hI h0⟩
  | fuel + 1, listed, a, w, hu, hI => by
    refine ⟨fun h0 => he _ _ _ hI h0, fun i hi => wpOp_mono (fun a' w' hI' => wpAny_inv hs he fuel _ a' w' ?_ hI') (hs _ _ _ _ hI hi)⟩
    obtain ⟨h1, o, ho, -⟩ := mem_ready.1 hi
    have hlt : i < ops.size := (Array.getElem?_eq_some_iff.1 ho).1
    have hsz : i < listed.size := by
      rcases Nat.lt_or_ge i listed.size with h | h
      · exact h
      · simp [Array.getElem?_eq_none h] at h1
    have := filter_lt (p := fun j => !listed.getD j true) (q := fun j => !(listed.setIfInBounds i true).getD j true) (fun j hj => by
      by_cases e : i = j
      · subst e; simp [hsz] at hj
      · rwa [getD_set_ne true e] at hj) (List.range ops.size) i (List.mem_range.2 hlt) (by rw [h1]; rfl) (by simp [hsz])
    unfold unl at *
    omega

def dstOf (ops : Array Oper) (i : Nat) : Nat := ((ops[i]?).bind (·.dst)).getD 0
/-- What an operation leaves, and that it lasts. -/
structure Pr where
  p : Value → World → Prop
  m : ∀ v w w', p v w → Ext w w' → p v w'
def Pr.eq (u : Value) : Pr := ⟨fun v _ => v = u, fun _ _ _ h _ => h⟩
def Pr.any : Pr := ⟨fun _ _ => True, fun _ _ _ h _ => h⟩
def prAt (L : List Pr) (i : Nat) (v : Value) (w : World) : Prop := match L[i]? with
  | some q => q.p v w
  | none => True
theorem prAt_ext {L : List Pr} {i : Nat} {v : Value} {w w' : World} (h : prAt L i v w) (he : Ext w w') : prAt L i v w' := by
  unfold prAt at *
  cases hq : L[i]? with
  | none => trivial
  | some q => rw [hq] at h; exact q.m _ _ _ h he

def RI (ops : Array Oper) (L : List Pr) (a0 : Act) (w0 : World) (listed : Array Bool) (a : Act) (w : World) : Prop :=
  listed.size = ops.size ∧ a.defers = a0.defers ∧ a.tmps.size = a0.tmps.size ∧ (∀ t, (∀ o ∈ ops.toList, o.dst ≠ some t) → a.tmps[t]? = a0.tmps[t]?) ∧ (∀ i, listed.getD i false = true → prAt L i (a.eval (.tmp (dstOf ops i))) w) ∧ Ext w0 w

def regOK (md : Region.Mode) (ops : Array Oper) (n : Nat) : Bool :=
  (ops.toList.all fun o => o.guard.isNone && (match o.dst with | some d => decide (d < n) | none => false)) && decide ((ops.toList.map (·.dst)).Nodup)
  && ((List.range ops.size).all fun i => ((ops[i]?).map fun o => o.after.all fun e => !Region.binds md e || decide (e.on < i)).getD true)

def AllSteps (T : Nat → Oper → Prop) : List Oper → Nat → Prop
  | [], _ => True
  | o :: l, i => T i o ∧ AllSteps T l (i + 1)
theorem AllSteps.get {T : Nat → Oper → Prop} : ∀ {l : List Oper} {k i : Nat} {o : Oper}, AllSteps T l k → l[i]? = some o → T (k + i) o
  | [], k, i, o, _, h => by simp at h
  | x :: l, k, 0, o, h, ho => by simp at ho; subst ho; exact h.1
  | x :: l, k, i + 1, o, h, ho => by
    have := AllSteps.get (i := i) h.2 (by simpa using ho)
    rwa [show k + 1 + i = k + (i + 1) by omega] at this

theorem eval_tmp (a : Act) (t : Nat) : a.eval (.tmp t) = (a.tmps[t]?).getD undef := by
  show a.tmps.getD t undef = _
  rw [Array.getD_eq_getD_getElem?]
def putAll (vals : Nat → Value) : List Oper → Nat → Act → Act
  | [], _, a => a
  | o :: l, i, a => putAll vals l (i + 1) (a.put o.dst (vals i))
theorem put_size (a : Act) (d : Option Tmp) (v : Value) : (a.put d v).tmps.size = a.tmps.size := by cases d <;> simp [Act.put]
theorem put_def (a : Act) (d : Option Tmp) (v : Value) : (a.put d v).defers = a.defers := by cases d <;> rfl
theorem put_ne (a : Act) {d : Option Tmp} (v : Value) {t : Nat} (h : d ≠ some t) : (a.put d v).tmps[t]? = a.tmps[t]? := by
  cases d with
  | none => rfl
  | some d => simp only [Act.put]; rw [Array.getElem?_setIfInBounds_ne (fun e => h (by rw [e]))]
theorem put_eq (a : Act) {d : Nat} (v : Value) (h : d < a.tmps.size) : (a.put (some d) v).tmps[d]? = some v := by
  simp [Act.put, h]
theorem putAll_size (vals : Nat → Value) : ∀ (l : List Oper) (k : Nat) (a : Act), (putAll vals l k a).tmps.size = a.tmps.size
  | [], _, _ => rfl
  | o :: l, k, a => by rw [putAll, putAll_size vals l, put_size]
theorem putAll_def (vals : Nat → Value) : ∀ (l : List Oper) (k : Nat) (a : Act), (putAll vals l k a).defers = a.defers
  | [], _, _ => rfl
  | o :: l, k, a => by rw [putAll, putAll_def vals l, put_def]
theorem putAll_ne (vals : Nat → Value) {t : Nat} : ∀ (l : List Oper) (k : Nat) (a : Act), (∀ o ∈ l, o.dst ≠ some t) → (putAll vals l k a).tmps[t]? = a.tmps[t]?
  | [], _, _, _ => rfl
  | o :: l, k, a, h => by rw [putAll, putAll_ne vals l _ _ (fun x hx => h x (List.mem_cons_of_mem _ hx)), put_ne _ _ (h o (List.mem_cons_self ..))]
theorem putAll_eq (vals : Nat → Value) {t : Nat} : ∀ (l : List Oper) (k : Nat) (a : Act) (i : Nat) (o : Oper), (l.map (·.dst)).Nodup → l[i]? = some o → o.dst = some t → t < a.tmps.size → (putAll vals l k a).tmps[t]? = some (vals (k + i))
  | [], _, _, _, _, _, h, _, _ => by simp at h
  | x :: l, k, a, 0, o, hn, ho, hd, ht => by
    simp at ho; subst ho
    rw [List.map_cons, List.nodup_cons] at hn
    rw [putAll, putAll_ne vals l _ _ (fun y hy e => hn.1 (by rw [hd, ← e]; exact List.mem_map_of_mem hy)), hd, put_eq _ _ ht]
    rfl
  | x :: l, k, a, i + 1, o, hn, ho, hd, ht => by
    rw [List.map_cons, List.nodup_cons] at hn
    rw [putAll, putAll_eq vals l (k + 1) _ i o hn.2 (by simpa using ho) hd (by rw [put_size]; exact ht), show k + 1 + i = k + (i + 1) by omega]

/-- What one operation must be shown to do. -/
def StepDo (P : Program) (md : Region.Mode) (ops : Array Oper) (Q : Exit → Act → World → Prop) (L : List Pr) (a0 : Act) (w0 : World) (i : Nat) (o : Oper) : Prop :=
  ∀ (a : Act) (w : World), Ext w0 w → (∀ j, (o.after.any fun e => Region.binds md e && e.on == j) = true → prAt L j (a.eval (.tmp (dstOf ops j))) w) →
    (∀ t, ops.toList.all (fun o => o.dst != some t) = true → a.eval (.tmp t) = a0.eval (.tmp t)) →
    ∀ K : Act → World → Prop, (∀ v w', prAt L i v w' → Ext w w' → K (a.put o.dst v) w') → o.wp P a w K Q

theorem wp_region_inv {id : Nat} {a0 : Act} {w0 : World} (L : List Pr) (hm : P.follows .mixedOrders = true) (hok : regOK .any ops a0.tmps.size = true)
    (hs : AllSteps (StepDo P .any ops Q L a0 w0.drew) ops.toList 0)
    (he : ∀ (vals : Nat → Value) (w : World), Ext w0.drew w → (∀ i, i < ops.size → prAt L i (vals i) w) → Q .normal (putAll vals ops.toList 0 a0) w) :
    (Code.region id ops true).wp P Q a0 w0 := by
  unfold regOK at hok
  simp only [Bool.and_eq_true, decide_eq_true_eq] at hok
  obtain ⟨⟨h1, h2⟩, h3⟩ := hok
  have hdst : ∀ (i : Nat) (o : Oper), ops[i]? = some o → o.guard = none ∧ ∃ d, o.dst = some d ∧ d < a0.tmps.size := by
    intro i o ho
    have hm' : o ∈ ops.toList := by rw [Array.mem_toList_iff]; exact Array.mem_of_getElem? ho
    have := List.all_eq_true.1 h1 o hm'
    rw [Bool.and_eq_true] at this
    cases hd : o.dst with
    | none => rw [hd] at this; simp at this
    | some d => rw [hd] at this; exact ⟨by simpa using this.1, d, rfl, by simpa using this.2⟩
  have hafter : ∀ (i : Nat) (o : Oper), ops[i]? = some o → ∀ e ∈ o.after, Region.binds .any e = true → e.on < i := by
    intro i o ho e hea hb
    have hi := (Array.getElem?_eq_some_iff.1 ho).1
    have := List.all_eq_true.1 h3 i (List.mem_range.2 hi)
    rw [ho] at this
    simp only [Option.map_some, Option.getD_some, Array.all_eq_true_iff_forall_mem] at this
    have := this e hea
    simpa [hb] using this
  have hinj : ∀ (i j : Nat) (o u : Oper), ops[i]? = some o → ops[j]? = some u → o.dst = u.dst → i = j := by
    intro i j o u hi hj hd
    have hi' : (ops.toList.map (·.dst))[i]? = some o.dst := by rw [List.getElem?_map, Array.getElem?_toList, hi]; rfl
    have hj' : (ops.toList.map (·.dst))[j]? = some o.dst := by rw [List.getElem?_map, Array.getElem?_toList, hj, hd]; rfl
    exact (List.getElem?_inj (by rw [List.length_map, Array.length_toList]; exact (Array.getElem?_eq_some_iff.1 hi).1) h2).1 (hi'.trans hj'.symm)
  refine wp_region_any hm (wpAny_inv (I := RI ops L a0 w0.drew) ?_ ?_ _ _ _ _ (by unfold unl; refine Nat.le_trans (List.length_filter_le _ _) (by simp)) ?_)
  · intro listed a w i ⟨r1, r2, r3, r4, r5, r6⟩ hi
    obtain ⟨g1, o, ho, g2⟩ := mem_ready.1 hi
    obtain ⟨hg, d, hd, hdn⟩ := hdst i o ho
    have hst := AllSteps.get (i := i) hs (by rw [Array.getElem?_toList]; exact ho)
    rw [Nat.zero_add] at hst
    have hw : Region.wanted o (yielded ops a.tmps) = true := by simp [Region.wanted, hg]
    unfold wpOp
    simp only [ho, hw, if_true]
    refine .inl (hst a w r6 (fun j hj => ?_) (fun t ht => ?_) _ (fun v w' hv hE => ?_))
    · obtain ⟨e, he1, he2⟩ := Array.any_eq_true'.1 hj
      simp only [Bool.and_eq_true, beq_iff_eq] at he2
      have := g2 e he1 he2.1
      rw [he2.2] at this
      exact r5 j this
    · have := r4 t (fun o ho' => by simpa using List.all_eq_true.1 ht o ho')
      rw [eval_tmp, eval_tmp, this]
    · refine ⟨by simpa using r1, by rw [put_def]; exact r2, by rw [put_size]; exact r3, fun t ht => ?_, fun j hj => ?_, r6.trans hE⟩
      · rw [put_ne _ _ (ht o (by rw [Array.mem_toList_iff]; exact Array.mem_of_getElem? ho))]
        exact r4 t ht
      · by_cases e : j = i
        · subst e
          have : (a.put o.dst v).eval (.tmp (dstOf ops j)) = v := by
            unfold dstOf
            rw [ho, Option.bind_some, hd, Option.getD_some, eval_tmp, put_eq _ _ (by rw [r3]; exact hdn)]
            rfl
          rw [this]
          exact hv
        · rw [getD_set_ne false (fun e' => e e'.symm)] at hj
          have h5 := prAt_ext (r5 j hj) hE
          have hjs : j < ops.size := by
            rcases Nat.lt_or_ge j listed.size with h | h
            · rw [← r1]; exact h
            · simp [Array.getElem?_eq_none h] at hj
          obtain ⟨u, hu⟩ : ∃ u, ops[j]? = some u := ⟨ops[j], by simp [hjs]⟩
          obtain ⟨-, d', hd', -⟩ := hdst j u hu
          have : (a.put o.dst v).eval (.tmp (dstOf ops j)) = a.eval (.tmp (dstOf ops j)) := by
            unfold dstOf
            rw [hu, Option.bind_some, hd', Option.getD_some, eval_tmp, eval_tmp, put_ne _ _ (fun e' => e (hinj j i u o hu ho (by rw [hd', e'])))]
          rw [this]
          exact h5
  · intro listed a w ⟨r1, r2, r3, r4, r5, r6⟩ hr
    have hall : ∀ n i, i < n → i < ops.size → listed.getD i false = true := by
      intro n
      induction n with
      | zero => intro i h; omega
      | succ n ih =>
        intro i hi his
        cases hli : listed.getD i true
        · exfalso
          obtain ⟨o, ho⟩ : ∃ o, ops[i]? = some o := ⟨ops[i], by simp [his]⟩
          have : i ∈ Region.ready .any ops listed := mem_ready.2 ⟨hli, o, ho, fun e he1 he2 => by
            have := hafter i o ho e he1 he2
            exact ih _ (by omega) (by omega)⟩
          rw [hr] at this
          cases this
        · have hsz : i < listed.size := by rw [r1]; exact his
          simpa [hsz] using hli
    have hv := he (fun i => a.eval (.tmp (dstOf ops i))) w r6 (fun i hi => r5 i (hall _ i (Nat.lt_succ_self i) hi))
    have : putAll (fun i => a.eval (.tmp (dstOf ops i))) ops.toList 0 a0 = a := by
      have e1 : (putAll (fun i => a.eval (.tmp (dstOf ops i))) ops.toList 0 a0).tmps = a.tmps := by
        apply Array.ext_getElem?
        intro t
        by_cases hx : ∃ o ∈ ops.toList, o.dst = some t
        · obtain ⟨o, hom, hd⟩ := hx
          obtain ⟨i, hi⟩ := List.mem_iff_getElem?.1 hom
          have ho : ops[i]? = some o := by rw [← Array.getElem?_toList]; exact hi
          obtain ⟨-, d, hd', hdn⟩ := hdst i o ho
          rw [hd] at hd'
          cases hd'
          rw [putAll_eq _ ops.toList 0 a0 i o h2 hi hd hdn, Nat.zero_add]
          show some (a.eval (.tmp (dstOf ops i))) = _
          unfold dstOf
          rw [ho, Option.bind_some, hd, Option.getD_some, eval_tmp, Array.getElem?_eq_getElem (by rw [r3]; exact hdn)]
          rfl
        · have hx' : ∀ o ∈ ops.toList, o.dst ≠ some t := fun o h1 h2 => hx ⟨o, h1, h2⟩
          rw [putAll_ne _ _ _ _ hx', r4 t hx']
      have e2 := putAll_def (fun i => a.eval (.tmp (dstOf ops i))) ops.toList 0 a0
      rw [← r2] at e2
      cases a
      cases hp : putAll (fun i => _) ops.toList 0 a0
      simp_all
    rw [this] at hv
    exact hv
  · refine ⟨by simp, rfl, rfl, fun _ _ => rfl, fun i hi => ?_, Ext.refl _⟩
    by_cases h : i < ops.size <;> simp [h] at hi
end

end Go.Proofs.Ytiikdpfbbcnplaa
