/- Several texts in one: DeaE, RegInv, NamR, RegInw, NamD, ReadI, Close, Door. -/
import Derived.Test.YtkbocenpkdaogaaDoorQ07
import Derived.Test.YtkbocenpkdaogaaDoorQ06
import Derived.Test.YtkbocenpkdaogaaDoorQ01
import Derived.Orders
import Derived.Test.YtkbocenpkdaogaaDoorQ04
import Derived.Test.YtkbocenpkdaogaaDoorCards
import Derived.Test.YtkbocenpkdaogaaDoorTie
import Derived.ProofKit
import Derived.OpenShut
import Derived.Deep.DeepHandedRow
import Derived.Lib.LaidTab
/- The chapter's example of layer 34. (printed by gen/dea34b.py) -/
namespace Go.Proofs.YtkbocenpkdaogaaDoor
set_option maxRecDepth 100000
open Go.RowKit

theorem greatK_smallE {l : List (List Item)} (h : greatK l = false) : l.length ≤ 1000000 ∧ ∀ x ∈ l, x.length ≤ 1000000 := by
  unfold greatK at h
  rw [Bool.or_eq_false_iff, decide_eq_false_iff_not] at h
  refine ⟨by omega, fun x hx => ?_⟩
  have := List.any_eq_false.1 h.1 x (by rw [List.take_of_length_le (by omega)]; exact hx)
  simp [wideS] at this
  omega

theorem alive34_data : ∃ (X Y : List (List Item)), newK 1 2 1 = (⟨1, X⟩, 0) ∧ tag33 ⟨1, X⟩ 0 2 1 1 ⟨0, 2, 5⟩ [] = (⟨1, Y⟩, 0, 0) ∧ endR34 ⟨1, X⟩ [5] = (0, 0) ∧ endR34 ⟨1, Y⟩ [4, 5] = (2, 0) ∧ endR34 ⟨1, Y⟩ [4, 6] = (0, 0) :=
  ⟨[[⟨1, 1, 0⟩], [⟨1, 1, 0⟩]], [[⟨1, 1, 0⟩, ⟨4, 2, 5⟩], [⟨1, 1, 0⟩, ⟨4, 2, 5⟩]], by decide +kernel⟩

set_option maxRecDepth 100000 in
set_option maxHeartbeats 1600000 in
theorem law34_may_yes {l : List (List Item)} {run : List Int} {num want : Int} {s v : Value} {w : World} (hl : Sts w s l) (hr : Nts w v run) (hE : endR34 ⟨num, l⟩ run = (want, 0)) :
    Calls Tryd.prog 41 #[.agg #[.int .i64 num, s], v, .int .u8 want] w fun e w' => e = .returned (.bool true) ∧ Ext w w' := by
  have hF := (Ext.refl w).alloc (.cells #[.int .i64 num, s] 56)
  have hL : Sts _ s l := hl.ext hF
  have hR : Nts _ v run := hr.ext hF
  have hq := Lib.hid hE
  obtain ⟨a, cp, rfl, -⟩ := hl.form
  obtain ⟨a2, cp2, rfl, -⟩ := hr.form
  clear hl hr hE
  go_enter Tryd.func41, Tryd.ntmps41
  go_wp2_with fail
  refine (dealloc_End hL hR).mono ?_
  rintro e w1 ⟨rfl, hE1⟩
  rw [hq.out]
  go_wp2
  go_ret
  exact ⟨rfl, hF.trans hE1⟩

set_option maxRecDepth 100000 in
set_option maxHeartbeats 6400000 in
theorem law34_alive {w : World} (hp : Perms w) : Calls Tryd.prog 40 #[] w fun e w' => e = .returned (.bool true) ∧ Ext w w' := by
  obtain ⟨X, Y, e1, e2, e3, e4, e5⟩ := alive34_data
  replace e1 := Lib.hid e1
  replace e2 := Lib.hid e2
  replace e3 := Lib.hid e3
  replace e4 := Lib.hid e4
  replace e5 := Lib.hid e5
  go_enter Tryd.func40, Tryd.ntmps40
  go_wp2_with fail
  refine (stacks_New 1 2 1 _).mono ?_
  rintro e w1 ⟨vh1, vsh1, rfl, oh1, hZ0⟩
  have hE0 : Ext w w1 := Ext.trans (by repeat (first | exact Ext.refl _ | apply Ext.alloc | apply Ext.drew)) hZ0
  replace hp := hp.ext hE0
  have hF0 := Ext.trans (Ext.refl w) hE0
  rw [e1.out] at oh1 ⊢
  dsimp only at oh1 ⊢
  have h1 : Sts _ _ X := oh1.sts
  obtain ⟨ah1, ch1, rfl, -⟩ := h1.form
  clear oh1
  go_wp2_with fail
  have bh1 := Box.new w1 56 #[.int .i64 1, .slice ah1 X.length ch1]
  have hsz : Hid ((World.alloc w1 (.cells #[.int .i64 1, .slice ah1 X.length ch1] 56)).heap.size = w1.heap.size + 1) := Hid.mk (by simp)
  have hx1 : Ext w1 (World.alloc w1 (.cells #[.int .i64 1, .slice ah1 X.length ch1] 56)) := (Ext.refl _).alloc _
  obtain ⟨w1b, hw1⟩ : ∃ x, World.alloc w1 (.cells #[.int .i64 1, .slice ah1 X.length ch1] 56) = x := ⟨_, rfl⟩
  rw [hw1] at hsz bh1 hx1 ⊢
  clear hw1
  replace hp := hp.ext hx1
  replace h1 := h1.ext hx1
  have hF1 := Ext.trans (hF0) hx1
  refine (stacks_Retag (run := []) (hp.ext (by repeat (first | exact Ext.refl _ | apply Ext.alloc | apply Ext.drew))) ⟨by decide, by decide⟩ 1 ⟨0, 2, 5⟩ (h1.ext (by repeat (first | exact Ext.refl _ | apply Ext.alloc | apply Ext.drew))) (by (repeat (first | exact Nts.nil _ | exact Nts.litl _ _ _ _ _ (by first | (simp; done) | exact hsz.out | (have := hsz.out; simp; omega)) rfl (by simp [maxLen]) rfl | refine Nts.ext ?_ (Ext.refl _).drew | refine Nts.ext ?_ ((Ext.refl _).alloc _) | refine Nts.ext ?_ (by assumption))))).mono ?_
  rintro e w3 ⟨vh2, vsh2, rfl, oh2, hZ2⟩
  have hE2 : Ext w1b w3 := Ext.trans (by repeat (first | exact Ext.refl _ | apply Ext.alloc | apply Ext.drew)) hZ2
  replace hp := hp.ext hE2
  replace h1 := h1.ext hE2
  replace bh1 := bh1.ext hE2
  have hF2 := Ext.trans (hF1) hE2
  rw [e2.out] at oh2 ⊢
  dsimp only at oh2 ⊢
  have h2 : Sts _ _ Y := oh2.sts
  obtain ⟨ah2, ch2, rfl, -⟩ := h2.form
  clear oh2
  have bh1_0 : World.cell? w3 ⟨w1.heap.size, 0, none⟩ = some (.int .i64 1) := bh1.cell 0
  have bh1_1 : World.cell? w3 ⟨w1.heap.size, 1, none⟩ = some (.slice ah1 X.length ch1) := bh1.cell 1
  have bh1_l := bh1.lt
  go_wp2_with fail
  clear bh1_0 bh1_1 bh1_l
  have bh2 := Box.new w3 56 #[.int .i64 1, .slice ah2 Y.length ch2]
  have hsz : Hid ((World.alloc w3 (.cells #[.int .i64 1, .slice ah2 Y.length ch2] 56)).heap.size = w3.heap.size + 1) := Hid.mk (by simp)
  have hx3 : Ext w3 (World.alloc w3 (.cells #[.int .i64 1, .slice ah2 Y.length ch2] 56)) := (Ext.refl _).alloc _
  obtain ⟨w3b, hw3⟩ : ∃ x, World.alloc w3 (.cells #[.int .i64 1, .slice ah2 Y.length ch2] 56) = x := ⟨_, rfl⟩
  rw [hw3] at hsz bh2 hx3 ⊢
  clear hw3
  replace hp := hp.ext hx3
  replace h1 := h1.ext hx3
  replace bh1 := bh1.ext hx3
  replace h2 := h2.ext hx3
  have hF3 := Ext.trans (hF2) hx3
  refine (law34_may_yes (run := [5]) (h1.ext (by repeat (first | exact Ext.refl _ | apply Ext.alloc | apply Ext.drew))) (by (repeat (first | exact Nts.nil _ | exact Nts.litl _ _ _ _ _ (by first | (simp; done) | exact hsz.out | (have := hsz.out; simp; omega)) rfl (by simp [maxLen]) rfl | refine Nts.ext ?_ (Ext.refl _).drew | refine Nts.ext ?_ ((Ext.refl _).alloc _) | refine Nts.ext ?_ (by assumption)))) e3.out).mono ?_
  rintro e w5 ⟨rfl, hZ4⟩
  have hE4 : Ext w3b w5 := Ext.trans (by repeat (first | exact Ext.refl _ | apply Ext.alloc | apply Ext.drew)) hZ4
  replace hp := hp.ext hE4
  replace h1 := h1.ext hE4
  replace bh1 := bh1.ext hE4
  replace h2 := h2.ext hE4
  replace bh2 := bh2.ext hE4
  have hF4 := Ext.trans (hF3) hE4
  have bh1_0 : World.cell? w5 ⟨w1.heap.size, 0, none⟩ = some (.int .i64 1) := bh1.cell 0
  have bh1_1 : World.cell? w5 ⟨w1.heap.size, 1, none⟩ = some (.slice ah1 X.length ch1) := bh1.cell 1
  have bh1_l := bh1.lt
  have bh2_0 : World.cell? w5 ⟨w3.heap.size, 0, none⟩ = some (.int .i64 1) := bh2.cell 0
  have bh2_1 : World.cell? w5 ⟨w3.heap.size, 1, none⟩ = some (.slice ah2 Y.length ch2) := bh2.cell 1
  have bh2_l := bh2.lt
  go_wp2_with fail
  clear bh1_0 bh1_1 bh1_l
  clear bh2_0 bh2_1 bh2_l
  refine (law34_may_yes (run := [4, 5]) (h2.ext (by repeat (first | exact Ext.refl _ | apply Ext.alloc | apply Ext.drew))) (by (repeat (first | exact Nts.nil _ | exact Nts.litl _ _ _ _ _ (by first | (simp; done) | exact hsz.out | (have := hsz.out; simp; omega)) rfl (by simp [maxLen]) rfl | refine Nts.ext ?_ (Ext.refl _).drew | refine Nts.ext ?_ ((Ext.refl _).alloc _) | refine Nts.ext ?_ (by assumption)))) e4.out).mono ?_
  rintro e w6 ⟨rfl, hZ5⟩
  have hE5 : Ext w5 w6 := Ext.trans (by repeat (first | exact Ext.refl _ | apply Ext.alloc | apply Ext.drew)) hZ5
  replace hp := hp.ext hE5
  replace h1 := h1.ext hE5
  replace bh1 := bh1.ext hE5
  replace h2 := h2.ext hE5
  replace bh2 := bh2.ext hE5
  have hF5 := Ext.trans (hF4) hE5
  have bh1_0 : World.cell? w6 ⟨w1.heap.size, 0, none⟩ = some (.int .i64 1) := bh1.cell 0
  have bh1_1 : World.cell? w6 ⟨w1.heap.size, 1, none⟩ = some (.slice ah1 X.length ch1) := bh1.cell 1
  have bh1_l := bh1.lt
  have bh2_0 : World.cell? w6 ⟨w3.heap.size, 0, none⟩ = some (.int .i64 1) := bh2.cell 0
  have bh2_1 : World.cell? w6 ⟨w3.heap.size, 1, none⟩ = some (.slice ah2 Y.length ch2) := bh2.cell 1
  have bh2_l := bh2.lt
  go_wp2_with fail
  clear bh1_0 bh1_1 bh1_l
  clear bh2_0 bh2_1 bh2_l
  refine (law34_may_yes (run := [4, 6]) (h2.ext (by repeat (first | exact Ext.refl _ | apply Ext.alloc | apply Ext.drew))) (by (repeat (first | exact Nts.nil _ | exact Nts.litl _ _ _ _ _ (by first | (simp; done) | exact hsz.out | (have := hsz.out; simp; omega)) rfl (by simp [maxLen]) rfl | refine Nts.ext ?_ (Ext.refl _).drew | refine Nts.ext ?_ ((Ext.refl _).alloc _) | refine Nts.ext ?_ (by assumption)))) e5.out).mono ?_
  rintro e w7 ⟨rfl, hZ6⟩
  have hE6 : Ext w6 w7 := Ext.trans (by repeat (first | exact Ext.refl _ | apply Ext.alloc | apply Ext.drew)) hZ6
  replace hp := hp.ext hE6
  replace h1 := h1.ext hE6
  replace bh1 := bh1.ext hE6
  replace h2 := h2.ext hE6
  replace bh2 := bh2.ext hE6
  have hF6 := Ext.trans (hF5) hE6
  have bh1_0 : World.cell? w7 ⟨w1.heap.size, 0, none⟩ = some (.int .i64 1) := bh1.cell 0
  have bh1_1 : World.cell? w7 ⟨w1.heap.size, 1, none⟩ = some (.slice ah1 X.length ch1) := bh1.cell 1
  have bh1_l := bh1.lt
  have bh2_0 : World.cell? w7 ⟨w3.heap.size, 0, none⟩ = some (.int .i64 1) := bh2.cell 0
  have bh2_1 : World.cell? w7 ⟨w3.heap.size, 1, none⟩ = some (.slice ah2 Y.length ch2) := bh2.cell 1
  have bh2_l := bh2.lt
  go_wp2
  go_ret
  exact ⟨rfl, hF6⟩

end Go.Proofs.YtkbocenpkdaogaaDoor

/- A region that draws its order, by what each operation leaves in its slot: no order is gone through. -/
namespace Go.Proofs.YtkbocenpkdaogaaDoor
set_option maxRecDepth 100000
open Go

section
variable {P : Program} {ops : Array Oper} {Q : Exit → Act → World → Prop} {md : Region.Mode}

theorem filter_lt {α : Type} {p q : α → Bool} (h : ∀ x, q x = true → p x = true) : ∀ (l : List α) (x : α), x ∈ l → p x = true → q x = false → (l.filter q).length < (l.filter p).length
  | y :: l, x, hx, hp, hq => by
    have hle : (l.filter q).length ≤ (l.filter p).length := by
      clear hx
      induction l with
      | nil => simp
      | cons z l ih =>
        simp only [List.filter_cons]
        cases hz : q z
        · cases hz' : p z
          · simpa using ih
          · simp; omega
        · rw [h z hz]; simpa using ih
    rcases List.mem_cons.1 hx with rfl | hm
    · simp only [List.filter_cons, hp, hq]
      simp; omega
    · have ih := filter_lt h l x hm hp hq
      simp only [List.filter_cons]
      cases hy : q y
      · cases hy' : p y
        · simpa using ih
        · simp; omega
      · rw [h y hy]; simpa using ih

def unl (ops : Array Oper) (listed : Array Bool) : Nat := ((List.range ops.size).filter fun i => !listed.getD i true).length

theorem wpAny_inv {I : Array Bool → Act → World → Prop}
    (hs : ∀ listed a w i, I listed a w → i ∈ Region.ready md ops listed → wpOp P ops Q i (I (listed.setIfInBounds i true)) a w)
    (he : ∀ listed a w, I listed a w → Region.ready md ops listed = [] → Q .normal a w) :
    ∀ (fuel : Nat) (listed : Array Bool) (a : Act) (w : World), unl ops listed ≤ fuel → I listed a w → wpAny P md ops Q fuel listed a w
  | 0, listed, a, w, hu, hI => by
    have h0 : Region.ready md ops listed = [] := by
      apply List.eq_nil_iff_forall_not_mem.2
      intro i hi
      obtain ⟨h1, o, ho, -⟩ := mem_ready.1 hi
      have hm : i ∈ (List.range ops.size).filter fun i => !listed.getD i true := List.mem_filter.2 ⟨List.mem_range.2 (Array.getElem?_eq_some_iff.1 ho).1, by rw [h1]; rfl⟩
      have := List.length_pos_of_mem hm
      unfold unl at hu
      omega
    exact ⟨h0, he _ _ _ hI h0⟩
  | fuel + 1, listed, a, w, hu, hI => by
    refine ⟨fun h0 => he _ _ _ hI h0, fun i hi => wpOp_mono (fun a' w' hI' => wpAny_inv hs he fuel _ a' w' ?_ hI') (hs _ _ _ _ hI hi)⟩
    obtain ⟨h1, o, ho, -⟩ := mem_ready.1 hi
    have hlt : i < ops.size := (Array.getElem?_eq_some_iff.1 ho).1
    have hsz : i < listed.size := by
      rcases Nat.lt_or_ge i listed.size with h | h
      · exact h
      · simp [Array.getElem?_eq_none h] at h1
    have := filter_lt (p := fun j => !listed.getD j true) (q := fun j => !(listed.setIfInBounds i true).getD j true) (fun j hj => by
      by_cases e : i = j
      · subst e; simp [hsz] at hj
      · rwa [getD_set_ne true e] at hj) (List.range ops.size) i (List.mem_range.2 hlt) (by rw [h1]; rfl) (by simp [hsz])
    unfold unl at *
    omega

def dstOf (ops : Array Oper) (i : Nat) : Nat := ((ops[i]?).bind (·.dst)).getD 0
/-- What an operation leaves, and that it lasts. -/
structure Pr where
  p : Value → World → Prop
  m : ∀ v w w', p v w → Ext w w' → p v w'
def Pr.eq (u : Value) : Pr := ⟨fun v _ => v = u, fun _ _ _ h _ => h⟩
def Pr.any : Pr := ⟨fun _ _ => True, fun _ _ _ h _ => h⟩
def prAt (L : List Pr) (i : Nat) (v : Value) (w : World) : Prop := match L[i]? with
  | some q => q.p v w
  | none => True
theorem prAt_ext {L : List Pr} {i : Nat} {v : Value} {w w' : World} (h : prAt L i v w) (he : Ext w w') : prAt L i v w' := by
  unfold prAt at *
  cases hq : L[i]? with
  | none => trivial
  | some q => rw [hq] at h; exact q.m _ _ _ h he

def RI (ops : Array Oper) (L : List Pr) (a0 : Act) (w0 : World) (listed : Array Bool) (a : Act) (w : World) : Prop :=
  listed.size = ops.size ∧ a.defers = a0.defers ∧ a.tmps.size = a0.tmps.size ∧ (∀ t, (∀ o ∈ ops.toList, o.dst ≠ some t) → a.tmps[t]? = a0.tmps[t]?) ∧ (∀ i, listed.getD i false = true → prAt L i (a.eval (.tmp (dstOf ops i))) w) ∧ Ext w0 w

def regOK (md : Region.Mode) (ops : Array Oper) (n : Nat) : Bool :=
  (ops.toList.all fun o => o.guard.isNone && (match o.dst with | some d => decide (d < n) | none => false)) && decide ((ops.toList.map (·.dst)).Nodup)
  && ((List.range ops.size).all fun i => ((ops[i]?).map fun o => o.after.all fun e => !Region.binds md e || decide (e.on < i)).getD true)

def AllSteps (T : Nat → Oper → Prop) : List Oper → Nat → Prop
  | [], _ => True
  | o :: l, i => T i o ∧ AllSteps T l (i + 1)
theorem AllSteps.get {T : Nat → Oper → Prop} : ∀ {l : List Oper} {k i : Nat} {o : Oper}, AllSteps T l k → l[i]? = some o → T (k + i) o
  | [], k, i, o, _, h => by simp at h
  | x :: l, k, 0, o, h, ho => by simp at ho; subst ho; exact h.1
  | x :: l, k, i + 1, o, h, ho => by
    have := AllSteps.get (i := i) h.2 (by simpa using ho)
    rwa [show k + 1 + i = k + (i + 1) by omega] at this

theorem eval_tmp (a : Act) (t : Nat) : a.eval (.tmp t) = (a.tmps[t]?).getD undef := by
  show a.tmps.getD t undef = _
  rw [Array.getD_eq_getD_getElem?]
def putAll (vals : Nat → Value) : List Oper → Nat → Act → Act
  | [], _, a => a
  | o :: l, i, a => putAll vals l (i + 1) (a.put o.dst (vals i))
theorem put_size (a : Act) (d : Option Tmp) (v : Value) : (a.put d v).tmps.size = a.tmps.size := by cases d <;> simp [Act.put]
theorem put_def (a : Act) (d : Option Tmp) (v : Value) : (a.put d v).defers = a.defers := by cases d <;> rfl
theorem put_ne (a : Act) {d : Option Tmp} (v : Value) {t : Nat} (h : d ≠ some t) : (a.put d v).tmps[t]? = a.tmps[t]? := by
  cases d with
  | none => rfl
  | some d => simp only [Act.put]; rw [Array.getElem?_setIfInBounds_ne (fun e => h (by rw [e]))]
theorem put_eq (a : Act) {d : Nat} (v : Value) (h : d < a.tmps.size) : (a.put (some d) v).tmps[d]? = some v := by
  simp [Act.put, h]
theorem putAll_size (vals : Nat → Value) : ∀ (l : List Oper) (k : Nat) (a : Act), (putAll vals l k a).tmps.size = a.tmps.size
  | [], _, _ => rfl
  | o :: l, k, a => by rw [putAll, putAll_size vals l, put_size]
theorem putAll_def (vals : Nat → Value) : ∀ (l : List Oper) (k : Nat) (a : Act), (putAll vals l k a).defers = a.defers
  | [], _, _ => rfl
  | o :: l, k, a => by rw [putAll, putAll_def vals l, put_def]
theorem putAll_ne (vals : Nat → Value) {t : Nat} : ∀ (l : List Oper) (k : Nat) (a : Act), (∀ o ∈ l, o.dst ≠ some t) → (putAll vals l k a).tmps[t]? = a.tmps[t]?
  | [], _, _, _ => rfl
  | o :: l, k, a, h => by rw [putAll, putAll_ne vals l _ _ (fun x hx => h x (List.mem_cons_of_mem _ hx)), put_ne _ _ (h o (List.mem_cons_self ..))]
theorem putAll_eq (vals : Nat → Value) {t : Nat} : ∀ (l : List Oper) (k : Nat) (a : Act) (i : Nat) (o : Oper), (l.map (·.dst)).Nodup → l[i]? = some o → o.dst = some t → t < a.tmps.size → (putAll vals l k a).tmps[t]? = some (vals (k + i))
  | [], _, _, _, _, _, h, _, _ => by simp at h
  | x :: l, k, a, 0, o, hn, ho, hd, ht => by
    simp at ho; subst ho
    rw [List.map_cons, List.nodup_cons] at hn
    rw [putAll, putAll_ne vals l _ _ (fun y hy e => hn.1 (by rw [hd, ← e]; exact List.mem_map_of_mem hy)), hd, put_eq _ _ ht]
    rfl
  | x :: l, k, a, i + 1, o, hn, ho, hd, ht => by
    rw [List.map_cons, List.nodup_cons] at hn
    rw [putAll, putAll_eq vals l (k + 1) _ i o hn.2 (by simpa using ho) hd (by rw [put_size]; exact ht), show k + 1 + i = k + (i + 1) by omega]

/-- What one operation must be shown to do. -/
def StepDo (P : Program) (md : Region.Mode) (ops : Array Oper) (Q : Exit → Act → World → Prop) (L : List Pr) (a0 : Act) (w0 : World) (i : Nat) (o : Oper) : Prop :=
  ∀ (a : Act) (w : World), Ext w0 w → (∀ j, (o.after.any fun e => Region.binds md e && e.on == j) = true → prAt L j (a.eval (.tmp (dstOf ops j))) w) →
    (∀ t, ops.toList.all (fun o => o.dst != some t) = true → a.eval (.tmp t) = a0.eval (.tmp t)) →
    ∀ K : Act → World → Prop, (∀ v w', prAt L i v w' → Ext w w' → K (a.put o.dst v) w') → o.wp P a w K Q

theorem wp_region_inv {id : Nat} {a0 : Act} {w0 : World} (L : List Pr) (hm : P.follows .mixedOrders = true) (hok : regOK .any ops a0.tmps.size = true)
    (hs : AllSteps (StepDo P .any ops Q L a0 w0.drew) ops.toList 0)
    (he : ∀ (vals : Nat → Value) (w : World), Ext w0.drew w → (∀ i, i < ops.size → prAt L i (vals i) w) → Q .normal (putAll vals ops.toList 0 a0) w) :
    (Code.region id ops true).wp P Q a0 w0 := by
  unfold regOK at hok
  simp only [Bool.and_eq_true, decide_eq_true_eq] at hok
  obtain ⟨⟨h1, h2⟩, h3⟩ := hok
  have hdst : ∀ (i : Nat) (o : Oper), ops[i]? = some o → o.guard = none ∧ ∃ d, o.dst = some d ∧ d < a0.tmps.size := by
    intro i o ho
    have hm' : o ∈ ops.toList := by rw [Array.mem_toList_iff]; exact Array.mem_of_getElem? ho
    have := List.all_eq_true.1 h1 o hm'
    rw [Bool.and_eq_true] at this
    cases hd : o.dst with
    | none => rw [hd] at this; simp at this
    | some d => rw [hd] at this; exact ⟨by simpa using this.1, d, rfl, by simpa using this.2⟩
  have hafter : ∀ (i : Nat) (o : Oper), ops[i]? = some o → ∀ e ∈ o.after, Region.binds .any e = true → e.on < i := by
    intro i o ho e hea hb
    have hi := (Array.getElem?_eq_some_iff.1 ho).1
    have := List.all_eq_true.1 h3 i (List.mem_range.2 hi)
    rw [ho] at this
    simp only [Option.map_some, Option.getD_some, Array.all_eq_true_iff_forall_mem] at this
    have := this e hea
    simpa [hb] using this
  have hinj : ∀ (i j : Nat) (o u : Oper), ops[i]? = some o → ops[j]? = some u → o.dst = u.dst → i = j := by
    intro i j o u hi hj hd
    have hi' : (ops.toList.map (·.dst))[i]? = some o.dst := by rw [List.getElem?_map, Array.getElem?_toList, hi]; rfl
    have hj' : (ops.toList.map (·.dst))[j]? = some o.dst := by rw [List.getElem?_map, Array.getElem?_toList, hj, hd]; rfl
    exact (List.getElem?_inj (by rw [List.length_map, Array.length_toList]; exact (Array.getElem?_eq_some_iff.1 hi).1) h2).1 (hi'.trans hj'.symm)
  refine wp_region_any hm (wpAny_inv (I := RI ops L a0 w0.drew) ?_ ?_ _ _ _ _ (by unfold unl; refine Nat.le_trans (List.length_filter_le _ _) (by simp)) ?_)
  · intro listed a w i ⟨r1, r2, r3, r4, r5, r6⟩ hi
    obtain ⟨g1, o, ho, g2⟩ := mem_ready.1 hi
    obtain ⟨hg, d, hd, hdn⟩ := hdst i o ho
    have hst := AllSteps.get (i := i) hs (by rw [Array.getElem?_toList]; exact ho)
    rw [Nat.zero_add] at hst
    have hw : Region.wanted o (yielded ops a.tmps) = true := by simp [Region.wanted, hg]
    unfold wpOp
    simp only [ho, hw, if_true]
    refine .inl (hst a w r6 (fun j hj => ?_) (fun t ht => ?_) _ (fun v w' hv hE => ?_))
    · obtain ⟨e, he1, he2⟩ := Array.any_eq_true'.1 hj
      simp only [Bool.and_eq_true, beq_iff_eq] at he2
      have := g2 e he1 he2.1
      rw [he2.2] at this
      exact r5 j this
    · have := r4 t (fun o ho' => by simpa using List.all_eq_true.1 ht o ho')
      rw [eval_tmp, eval_tmp, this]
    · refine ⟨by simpa using r1, by rw [put_def]; exact r2, by rw [put_size]; exact r3, fun t ht => ?_, fun j hj => ?_, r6.trans hE⟩
      · rw [put_ne _ _ (ht o (by rw [Array.mem_toList_iff]; exact Array.mem_of_getElem? ho))]
        exact r4 t ht
      · by_cases e : j = i
        · subst e
          have : (a.put o.dst v).eval (.tmp (dstOf ops j)) = v := by
            unfold dstOf
            rw [ho, Option.bind_some, hd, Option.getD_some, eval_tmp, put_eq _ _ (by rw [r3]; exact hdn)]
            rfl
          rw [this]
          exact hv
        · rw [getD_set_ne false (fun e' => e e'.symm)] at hj
          have h5 := prAt_ext (r5 j hj) hE
          have hjs : j < ops.size := by
            rcases Nat.lt_or_ge j listed.size with h | h
            · rw [← r1]; exact h
            · simp [Array.getElem?_eq_none h] at hj
          obtain ⟨u, hu⟩ : ∃ u, ops[j]? = some u := ⟨ops[j], by simp [hjs]⟩
          obtain ⟨-, d', hd', -⟩ := hdst j u hu
          have : (a.put o.dst v).eval (.tmp (dstOf ops j)) = a.eval (.tmp (dstOf ops j)) := by
            unfold dstOf
            rw [hu, Option.bind_some, hd', Option.getD_some, eval_tmp, eval_tmp, put_ne _ _ (fun e' => e (hinj j i u o hu ho (by rw [hd', e'])))]
          rw [this]
          exact h5
  · intro listed a w ⟨r1, r2, r3, r4, r5, r6⟩ hr
    have hall : ∀ n i, i < n → i < ops.size → listed.getD i false = true := by
      intro n
      induction n with
      | zero => intro i h; omega
      | succ n ih =>
        intro i hi his
        cases hli : listed.getD i true
        · exfalso
          obtain ⟨o, ho⟩ : ∃ o, ops[i]? = some o := ⟨ops[i], by simp [his]⟩
          have : i ∈ Region.ready .any ops listed := mem_ready.2 ⟨hli, o, ho, fun e he1 he2 => by
            have := hafter i o ho e he1 he2
            exact ih _ (by omega) (by omega)⟩
          rw [hr] at this
          cases this
        · have hsz : i < listed.size := by rw [r1]; exact his
          simpa [hsz] using hli
    have hv := he (fun i => a.eval (.tmp (dstOf ops i))) w r6 (fun i hi => r5 i (hall _ i (Nat.lt_succ_self i) hi))
    have : putAll (fun i => a.eval (.tmp (dstOf ops i))) ops.toList 0 a0 = a := by
      have e1 : (putAll (fun i => a.eval (.tmp (dstOf ops i))) ops.toList 0 a0).tmps = a.tmps := by
        apply Array.ext_getElem?
        intro t
        by_cases hx : ∃ o ∈ ops.toList, o.dst = some t
        · obtain ⟨o, hom, hd⟩ := hx
          obtain ⟨i, hi⟩ := List.mem_iff_getElem?.1 hom
          have ho : ops[i]? = some o := by rw [← Array.getElem?_toList]; exact hi
          obtain ⟨-, d, hd', hdn⟩ := hdst i o ho
          rw [hd] at hd'
          cases hd'
          rw [putAll_eq _ ops.toList 0 a0 i o h2 hi hd hdn, Nat.zero_add]
          show some (a.eval (.tmp (dstOf ops i))) = _
          unfold dstOf
          rw [ho, Option.bind_some, hd, Option.getD_some, eval_tmp, Array.getElem?_eq_getElem (by rw [r3]; exact hdn)]
          rfl
        · have hx' : ∀ o ∈ ops.toList, o.dst ≠ some t := fun o h1 h2 => hx ⟨o, h1, h2⟩
          rw [putAll_ne _ _ _ _ hx', r4 t hx']
      have e2 := putAll_def (fun i => a.eval (.tmp (dstOf ops i))) ops.toList 0 a0
      rw [← r2] at e2
      cases a
      cases hp : putAll (fun i => _) ops.toList 0 a0
      simp_all
    rw [this] at hv
    exact hv
  · refine ⟨by simp, rfl, rfl, fun _ _ => rfl, fun i hi => ?_, Ext.refl _⟩
    by_cases h : i < ops.size <;> simp [h] at hi
end

end Go.Proofs.YtkbocenpkdaogaaDoor

/- What the operations of a literal table of stacks leave. (printed by gen/names33.py) -/
namespace Go.Proofs.YtkbocenpkdaogaaDoor
set_option maxRecDepth 100000
open Go.RowKit

def PrS (l : List (List Item)) : Pr := ⟨fun v w => Sts w v l, fun _ _ _ h he => Sts.ext h he⟩
def PrI (l : List Item) : Pr := ⟨fun v w => Its w v l, fun _ _ _ h he => Its.ext h he⟩
def PrT (l : List Stk) : Pr := ⟨fun v w => Kts w v l, fun _ _ _ h he => Kts.ext h he⟩
def PrK (n : Int) (l : List (List Item)) : Pr := ⟨fun v w => ∃ s, v = .agg #[.int .i64 n, s] ∧ Sts w s l, fun _ _ _ ⟨s, h1, h2⟩ he => ⟨s, h1, Sts.ext h2 he⟩⟩
theorem sts_made1 (w : World) : Sts (w.alloc (.cells #[.slice none 0 0] 31)) (.slice (some ⟨w.heap.size, 0, none⟩) 1 1) [[]] := Sts.lit1 w _ _ _ _ (Its.nil _) rfl
theorem sts_made3 (w : World) : Sts (w.alloc (.cells #[.slice none 0 0, .slice none 0 0, .slice none 0 0] 31)) (.slice (some ⟨w.heap.size, 0, none⟩) 3 3) [[], [], []] := Sts.lit3 w _ _ _ _ _ _ _ _ (Its.nil _) (Its.nil _) (Its.nil _) rfl

end Go.Proofs.YtkbocenpkdaogaaDoor

/- A region that draws its order, by what each operation leaves in its slot, guards included. -/
namespace Go.Proofs.YtkbocenpkdaogaaDoor
set_option maxRecDepth 100000
open Go

section
variable {P : Program} {ops : Array Oper} {Q : Exit → Act → World → Prop} {md : Region.Mode}

def regOG (md : Region.Mode) (ops : Array Oper) (n : Nat) : Bool :=
  (ops.toList.all fun o => match o.dst with | some d => decide (d < n) | none => false) && decide ((ops.toList.map (·.dst)).Nodup)
  && ((List.range ops.size).all fun i => ((ops[i]?).map fun o => o.after.all fun e => !Region.binds md e || decide (e.on < i)).getD true)
theorem wanted_by {o : Oper} {a : Act} {k : Nat} {b : Bool} (d : Nat) (hg : o.guard = some (k, b)) (hd : (ops[k]?).bind (·.dst) = some d) (hv : a.eval (.tmp d) = .bool b) : Region.wanted o (yielded ops a.tmps) = true := by
  rw [eval_tmp] at hv
  have : a.tmps[d]? = some (.bool b) := by
    cases h : a.tmps[d]? with
    | none => rw [h] at hv; cases hv
    | some v => rw [h] at hv; exact congrArg some hv
  simp [Region.wanted, hg, yielded, hd, this]

/-- What one operation must be shown to do. -/
def StepGo (P : Program) (md : Region.Mode) (ops : Array Oper) (Q : Exit → Act → World → Prop) (L : List Pr) (a0 : Act) (w0 : World) (i : Nat) (o : Oper) : Prop :=
  ∀ (a : Act) (w : World), Ext w0 w → (∀ j, (o.after.any fun e => Region.binds md e && e.on == j) = true → prAt L j (a.eval (.tmp (dstOf ops j))) w) →
    (∀ t, ops.toList.all (fun o => o.dst != some t) = true → a.eval (.tmp t) = a0.eval (.tmp t)) →
    (Region.wanted o (yielded ops a.tmps) = true ∧ ∀ K : Act → World → Prop, (∀ v w', prAt L i v w' → Ext w w' → K (a.put o.dst v) w') → o.wp P a w K Q) ∨ (Region.wanted o (yielded ops a.tmps) = false ∧ prAt L i undef w)

theorem wp_region_go {id : Nat} {a0 : Act} {w0 : World} (L : List Pr) (hm : P.follows .mixedOrders = true) (hok : regOG .any ops a0.tmps.size = true)
    (hs : AllSteps (StepGo P .any ops Q L a0 w0.drew) ops.toList 0)
    (he : ∀ (vals : Nat → Value) (w : World), Ext w0.drew w → (∀ i, i < ops.size → prAt L i (vals i) w) → Q .normal (putAll vals ops.toList 0 a0) w) :
    (Code.region id ops true).wp P Q a0 w0 := by
  unfold regOG at hok
  simp only [Bool.and_eq_true, decide_eq_true_eq] at hok
  obtain ⟨⟨h1, h2⟩, h3⟩ := hok
  have hdst : ∀ (i : Nat) (o : Oper), ops[i]? = some o → ∃ d, o.dst = some d ∧ d < a0.tmps.size := by
    intro i o ho
    have hm' : o ∈ ops.toList := by rw [Array.mem_toList_iff]; exact Array.mem_of_getElem? ho
    have := List.all_eq_true.1 h1 o hm'
    cases hd : o.dst with
    | none => rw [hd] at this; simp at this
    | some d => rw [hd] at this; exact ⟨d, rfl, by simpa using this⟩
  have hafter : ∀ (i : Nat) (o : Oper), ops[i]? = some o → ∀ e ∈ o.after, Region.binds .any e = true → e.on < i := by
    intro i o ho e hea hb
    have hi := (Array.getElem?_eq_some_iff.1 ho).1
    have := List.all_eq_true.1 h3 i (List.mem_range.2 hi)
    rw [ho] at this
    simp only [Option.map_some, Option.getD_some, Array.all_eq_true_iff_forall_mem] at this
    have := this e hea
    simpa [hb] using this
  have hinj : ∀ (i j : Nat) (o u : Oper), ops[i]? = some o → ops[j]? = some u → o.dst = u.dst → i = j := by
    intro i j o u hi hj hd
    have hi' : (ops.toList.map (·.dst))[i]? = some o.dst := by rw [List.getElem?_map, Array.getElem?_toList, hi]; rfl
    have hj' : (ops.toList.map (·.dst))[j]? = some o.dst := by rw [List.getElem?_map, Array.getElem?_toList, hj, hd]; rfl
    exact (List.getElem?_inj (by rw [List.length_map, Array.length_toList]; exact (Array.getElem?_eq_some_iff.1 hi).1) h2).1 (hi'.trans hj'.symm)
  refine wp_region_any hm (wpAny_inv (I := RI ops L a0 w0.drew) ?_ ?_ _ _ _ _ (by unfold unl; refine Nat.le_trans (List.length_filter_le _ _) (by simp)) ?_)
  · intro listed a w i ⟨r1, r2, r3, r4, r5, r6⟩ hi
    obtain ⟨g1, o, ho, g2⟩ := mem_ready.1 hi
    obtain ⟨d, hd, hdn⟩ := hdst i o ho
    have hst := AllSteps.get (i := i) hs (by rw [Array.getElem?_toList]; exact ho)
    rw [Nat.zero_add] at hst
    have hput : ∀ v w', prAt L i v w' → Ext w w' → RI ops L a0 w0.drew (listed.setIfInBounds i true) (a.put o.dst v) w' := by
      intro v w' hv hE
      refine ⟨by simpa using r1, by rw [put_def]; exact r2, by rw [put_size]; exact r3, fun t ht => ?_, fun j hj => ?_, r6.trans hE⟩
      · rw [put_ne _ _ (ht o (by rw [Array.mem_toList_iff]; exact Array.mem_of_getElem? ho))]
        exact r4 t ht
      · by_cases e : j = i
        · subst e
          have : (a.put o.dst v).eval (.tmp (dstOf ops j)) = v := by
            unfold dstOf
            rw [ho, Option.bind_some, hd, Option.getD_some, eval_tmp, put_eq _ _ (by rw [r3]; exact hdn)]
            rfl
          rw [this]
          exact hv
        · rw [getD_set_ne false (fun e' => e e'.symm)] at hj
          have h5 := prAt_ext (r5 j hj) hE
          have hjs : j < ops.size := by
            rcases Nat.lt_or_ge j listed.size with h | h
            · rw [← r1]; exact h
            · simp [Array.getElem?_eq_none h] at hj
          obtain ⟨u, hu⟩ : ∃ u, ops[j]? = some u := ⟨ops[j], by simp [hjs]⟩
          obtain ⟨d', hd', -⟩ := hdst j u hu
          have : (a.put o.dst v).eval (.tmp (dstOf ops j)) = a.eval (.tmp (dstOf ops j)) := by
            unfold dstOf
            rw [hu, Option.bind_some, hd', Option.getD_some, eval_tmp, eval_tmp, put_ne _ _ (fun e' => e (hinj j i u o hu ho (by rw [hd', e'])))]
          rw [this]
          exact h5
    have hdep : (Region.wanted o (yielded ops a.tmps) = true ∧ ∀ K : Act → World → Prop, (∀ v w', prAt L i v w' → Ext w w' → K (a.put o.dst v) w') → o.wp P a w K Q) ∨ (Region.wanted o (yielded ops a.tmps) = false ∧ prAt L i undef w) := by
      refine hst a w r6 (fun j hj => ?_) (fun t ht => ?_)
      · obtain ⟨e, he1, he2⟩ := Array.any_eq_true'.1 hj
        simp only [Bool.and_eq_true, beq_iff_eq] at he2
        have := g2 e he1 he2.1
        rw [he2.2] at this
        exact r5 j this
      · have := r4 t (fun o ho' => by simpa using List.all_eq_true.1 ht o ho')
        rw [eval_tmp, eval_tmp, this]
    unfold wpOp
    simp only [ho]
    rcases hdep with ⟨hw, h⟩ | ⟨hw, h⟩
    · rw [if_pos hw]
      exact .inl (h _ hput)
    · rw [if_neg (by rw [hw]; simp)]
      exact hput _ _ h (Ext.refl _)
  · intro listed a w ⟨r1, r2, r3, r4, r5, r6⟩ hr
    have hall : ∀ n i, i < n → i < ops.size → listed.getD i false = true := by
      intro n
      induction n with
      | zero => intro i h; omega
      | succ n ih =>
        intro i hi his
        cases hli : listed.getD i true
        · exfalso
          obtain ⟨o, ho⟩ : ∃ o, ops[i]? = some o := ⟨ops[i], by simp [his]⟩
          have : i ∈ Region.ready .any ops listed := mem_ready.2 ⟨hli, o, ho, fun e he1 he2 => by
            have := hafter i o ho e he1 he2
            exact ih _ (by omega) (by omega)⟩
          rw [hr] at this
          cases this
        · have hsz : i < listed.size := by rw [r1]; exact his
          simpa [hsz] using hli
    have hv := he (fun i => a.eval (.tmp (dstOf ops i))) w r6 (fun i hi => r5 i (hall _ i (Nat.lt_succ_self i) hi))
    have : putAll (fun i => a.eval (.tmp (dstOf ops i))) ops.toList 0 a0 = a := by
      have e1 : (putAll (fun i => a.eval (.tmp (dstOf ops i))) ops.toList 0 a0).tmps = a.tmps := by
        apply Array.ext_getElem?
        intro t
        by_cases hx : ∃ o ∈ ops.toList, o.dst = some t
        · obtain ⟨o, hom, hd⟩ := hx
          obtain ⟨i, hi⟩ := List.mem_iff_getElem?.1 hom
          have ho : ops[i]? = some o := by rw [← Array.getElem?_toList]; exact hi
          obtain ⟨d, hd', hdn⟩ := hdst i o ho
          rw [hd] at hd'
          cases hd'
          rw [putAll_eq _ ops.toList 0 a0 i o h2 hi hd hdn, Nat.zero_add]
          show some (a.eval (.tmp (dstOf ops i))) = _
          unfold dstOf
          rw [ho, Option.bind_some, hd, Option.getD_some, eval_tmp, Array.getElem?_eq_getElem (by rw [r3]; exact hdn)]
          rfl
        · have hx' : ∀ o ∈ ops.toList, o.dst ≠ some t := fun o h1 h2 => hx ⟨o, h1, h2⟩
          rw [putAll_ne _ _ _ _ hx', r4 t hx']
      have e2 := putAll_def (fun i => a.eval (.tmp (dstOf ops i))) ops.toList 0 a0
      rw [← r2] at e2
      cases a
      cases hp : putAll (fun i => _) ops.toList 0 a0
      simp_all
    rw [this] at hv
    exact hv
  · refine ⟨by simp, rfl, rfl, fun _ _ => rfl, fun i hi => ?_, Ext.refl _⟩
    by_cases h : i < ops.size <;> simp [h] at hi
end

end Go.Proofs.YtkbocenpkdaogaaDoor

/- Many stacks in a slice of one's own; what the calls of DeallocNames give; no program's function in sight. (printed by gen/names34.py) -/
namespace Go.Proofs.YtkbocenpkdaogaaDoor
set_option maxRecDepth 100000
open Go.RowKit

def PrN (l : List Int) : Pr := ⟨fun v w => Nts w v l, fun _ _ _ h he => Nts.ext h he⟩
def nrow (s : Value) : List Value := [.int .i64 0, s]
theorem nrow_len (s : Value) : (nrow s).length = 2 := rfl
/-- The cells of n zero values of api.Stacks. -/
def zstks (n : Nat) : Array Value := ((List.replicate n (Value.slice none 0 0)).flatMap nrow).toArray
theorem zstks_made (n : Nat) : madeCells #[.int .i64 0, .slice none 0 0] (n * 2) = zstks n := by
  apply Array.toList_inj.1
  apply List.ext_getElem?
  intro j
  have hlen : ((List.replicate n (Value.slice none 0 0)).flatMap nrow).length = n * 2 := by rw [rows_len (k := 2) nrow nrow_len, List.length_replicate]
  by_cases hj : j < n * 2
  · have h1 := rows_get nrow nrow_len (List.replicate n (Value.slice none 0 0)) (j / 2) (j % 2) (Value.slice none 0 0) (by rw [List.getElem?_replicate, if_pos (by omega)]) (Nat.mod_lt _ (by omega))
    rw [show j / 2 * 2 + j % 2 = j by omega] at h1
    show _ = ((List.replicate n (Value.slice none 0 0)).flatMap nrow)[j]?
    rw [h1]
    have h5 : j % 2 < 2 := Nat.mod_lt _ (by omega)
    generalize hm : j % 2 = m at *
    have : m = 0 ∨ m = 1 := by omega
    rcases this with rfl | rfl <;> simp [madeCells, hj, hm, nrow]
  · rw [List.getElem?_eq_none (by rw [Array.length_toList, size_madeCells]; omega), List.getElem?_eq_none (by show _ ≤ _; rw [show (zstks n).toList = (List.replicate n (Value.slice none 0 0)).flatMap nrow from rfl, hlen]; omega)]
theorem make_Stks (n : Nat) (hn : n ≤ 1000000) (W : World) : (Instr.makeSlice 59 (.int .i64 (n : Int)) (.int .i64 (n : Int))).run Tryd.prog W = .ok (.slice (some ⟨W.heap.size, 0, none⟩) n n) (W.alloc (.cells (zstks n) 56)) := by
  have h : (Tryd.prog.info? 56).map (fun i => (i.zero.map (fun z => z.cells), i.size, i.bytes)) = some (some #[.int .i64 0, .slice none 0 0], 2, 32) := by kernel_rfl
  cases hi : Tryd.prog.info? 56 with
  | none => rw [hi] at h; simp at h
  | some i =>
    rw [hi] at h
    simp only [Option.map_some, Option.some.injEq, Prod.mk.injEq] at h
    obtain ⟨h1, h2, h3⟩ := h
    cases hz : i.zero with
    | none => rw [hz] at h1; simp at h1
    | some z =>
      rw [hz] at h1
      have hz' : z.cells = #[.int .i64 0, .slice none 0 0] := by simpa using h1
      have := run_make W 59 56 i z Tryd.underlying59 hi hz .i64 .i64 n n (by omega) (Int.le_refl _) (by rw [h3]; omega) (by omega)
      rw [this, hz', h2, Int.toNat_natCast, zstks_made]
theorem zstks_own (n : Nat) (hn : n ≤ 1000000) (W : World) {B : Nat} (hB : B ≤ W.heap.size) : Own (W.alloc (.cells (zstks n) 56)) B 56 2 (.slice (some ⟨W.heap.size, 0, none⟩) n n) n ((List.replicate n (Value.slice none 0 0)).flatMap nrow) :=
  Own.lit (B := B) (e := 56) (k := 2) W (zstks n) n hB (by simp [maxLen]; omega) (by simp [zstks, rows_len (k := 2) nrow nrow_len])
theorem slice_upto_Stks (a : Option Addr) (n cap : Nat) (x : Int) (k : Nat) (hx : x = k) (hk : k ≤ cap) :
    ∀ w, (Instr.slice 59 (.slice a n cap) none (some (.int .i64 x)) none).run Tryd.prog w = .ok (.slice a k cap) w := by
  cases hi : Tryd.prog.info? 56 with
  | none => have h : (Tryd.prog.info? 56).isSome = true := by kernel_rfl
            rw [hi] at h; cases h
  | some i => exact fun w => run_slice_upto Tryd.underlying59 hi a n cap x k hx hk w

theorem nrow_set : ∀ (vs : List Value) (k : Nat) (s : Value), k < vs.length → ((vs.flatMap nrow).set (k * 2) (.int .i64 0)).set (k * 2 + 1) s = (vs.set k s).flatMap nrow
  | [], k, s, h => by simp at h
  | v :: vs, 0, s, _ => rfl
  | v :: vs, k + 1, s, h => by
    have ih := nrow_set vs k s (by simpa using h)
    have e1 : (v :: vs).flatMap nrow = Value.int .i64 0 :: v :: vs.flatMap nrow := rfl
    have e2 : ((v :: vs).set (k + 1) s).flatMap nrow = Value.int .i64 0 :: v :: (vs.set k s).flatMap nrow := rfl
    rw [e1, e2, ← ih, show (k + 1) * 2 = k * 2 + 1 + 1 by omega]
    rfl
def base34 : List (List Item) := [[⟨1, 1, 0⟩]]
def one34 : List (List Item) := [[⟨1, 1, 0⟩, ⟨4, 2, 9⟩], [⟨1, 1, 3⟩, ⟨3, 3, 8⟩, ⟨3, 3, 9⟩]]
def kept34 : List Item := [⟨4, 2, 9⟩, ⟨1, 1, 3⟩, ⟨3, 3, 9⟩]
theorem trows_base : ∀ vs : List Value, trows krow vs (List.replicate vs.length ⟨0, base34⟩) = vs.flatMap nrow
  | [] => rfl
  | v :: vs => by
    have ih := trows_base vs
    show krow v ⟨0, base34⟩ ++ trows krow vs (List.replicate vs.length ⟨0, base34⟩) = nrow v ++ vs.flatMap nrow
    rw [ih]
    rfl
/-- Slices that each read as the base make a slice of stacks. -/
theorem kts_base {w : World} {a : Option Addr} {n cap : Nat} {vs : List Value} (h : Sl w 2 (.slice a n cap) n (vs.flatMap nrow)) (hl : vs.length = n) (hs : ∀ s ∈ vs, Sts w s base34) : Kts w (.slice a n cap) (List.replicate n ⟨0, base34⟩) := by
  subst hl
  refine ⟨vs, ?_, ?_⟩
  · refine All2.iff.2 ⟨by simp, fun i s x h1 h2 => ?_⟩
    rw [List.getElem?_replicate] at h2
    split at h2
    · cases h2
      exact hs s (List.mem_of_getElem? h1)
    · cases h2
  · rw [trows_base, List.length_replicate]
    exact h
theorem kts_base_take {w : World} {a : Option Addr} {n cap i : Nat} {vs : List Value} (h : Sl w 2 (.slice a n cap) n (vs.flatMap nrow)) (hl : vs.length = n) (hs : ∀ s ∈ vs, Sts w s base34) (hi : i ≤ n) : Kts w (.slice a i cap) (List.replicate i ⟨0, base34⟩) := by
  refine kts_base (vs := vs.take i) ?_ (by rw [List.length_take]; omega) (fun s hm => hs s (List.mem_of_mem_take hm))
  rw [← rows_take (k := 2) nrow nrow_len]
  exact h.take i hi
/-- A literal base reads so whatever becomes of older blocks. -/
theorem base_foot (w : World) (g : Nat) (hg : g < w.heap.size) : Foot (g + 1) ((w.alloc (.cells #[.int .u8 1, .int .i64 1, .int .i64 0] 23)).alloc (.cells #[.slice (some ⟨w.heap.size, 0, none⟩) 1 1] 31)).heap.size
    ((w.alloc (.cells #[.int .u8 1, .int .i64 1, .int .i64 0] 23)).alloc (.cells #[.slice (some ⟨w.heap.size, 0, none⟩) 1 1] 31)) (fun w' => Sts w' (.slice (some ⟨w.heap.size + 1, 0, none⟩) 1 1) base34) := by
  intro w'' hb
  have b1 : Box ((w.alloc (.cells #[.int .u8 1, .int .i64 1, .int .i64 0] 23)).alloc (.cells #[.slice (some ⟨w.heap.size, 0, none⟩) 1 1] 31)) w.heap.size 23 #[.int .u8 1, .int .i64 1, .int .i64 0] := (Box.new w _ _).ext ((Ext.refl _).alloc _)
  have b2 := Box.new (w.alloc (.cells #[.int .u8 1, .int .i64 1, .int .i64 0] 23)) 31 #[.slice (some ⟨w.heap.size, 0, none⟩) 1 1]
  rw [World.size_alloc] at b2
  have c1 : Box w'' w.heap.size 23 #[.int .u8 1, .int .i64 1, .int .i64 0] := (hb _ (by omega) (by simp; omega)).trans b1
  have c2 : Box w'' (w.heap.size + 1) 31 #[.slice (some ⟨w.heap.size, 0, none⟩) 1 1] := (hb _ (by omega) (by simp)).trans b2
  exact Sts.of_box c2 [_] ⟨Its.of_box c1 rfl (by simp [maxLen]) rfl, trivial⟩ rfl (by simp [maxLen]) rfl
theorem Kts.lit2 (w : World) (n0 n1 : Int) (s0 s1 : Value) (l0 l1 : List (List Item)) (b : Nat) (e : TypeId) (h0 : Sts w s0 l0) (h1 : Sts w s1 l1) (hb : w.heap.size = b) : Kts (w.alloc (.cells #[.int .i64 n0, s0, .int .i64 n1, s1] e)) (.slice (some ⟨b, 0, none⟩) 2 2) [⟨n0, l0⟩, ⟨n1, l1⟩] :=
  Kts.lit w _ [s0, s1] _ 2 b e ⟨h0, h1, trivial⟩ hb rfl (by simp [maxLen]) rfl
theorem Kts.lit3 (w : World) (n0 n1 n2 : Int) (s0 s1 s2 : Value) (l0 l1 l2 : List (List Item)) (b : Nat) (e : TypeId) (h0 : Sts w s0 l0) (h1 : Sts w s1 l1) (h2 : Sts w s2 l2) (hb : w.heap.size = b) :
    Kts (w.alloc (.cells #[.int .i64 n0, s0, .int .i64 n1, s1, .int .i64 n2, s2] e)) (.slice (some ⟨b, 0, none⟩) 3 3) [⟨n0, l0⟩, ⟨n1, l1⟩, ⟨n2, l2⟩] :=
  Kts.lit w _ [s0, s1, s2] _ 3 b e ⟨h0, h1, h2, trivial⟩ hb rfl (by simp [maxLen]) rfl
theorem dn_a : endR34 ⟨0, []⟩ [0] = (0, 8) := by decide +kernel
theorem dn_b : endR34 ⟨0, []⟩ [] = (0, 8) := by decide +kernel
theorem dn_c : protR ⟨0, []⟩ [] = ([], 8) := by decide +kernel
theorem dn_d : protR ⟨0, one34⟩ [2, 1] = ([], 8) := by decide +kernel
theorem dn_e : protR ⟨0, one34⟩ [3, 9] = (kept34, 0) := by decide +kernel
theorem dn_f : allR34 (List.replicate 401 ⟨0, base34⟩) [1, 1] = (0, 0, 8) := by decide +kernel
theorem dn_g : allR34 (List.replicate 401 ⟨0, base34⟩) [] = (0, 0, 4) := by decide +kernel
theorem dn_h : allR34 (List.replicate 400 ⟨0, base34⟩) [3] = (400, 0, 0) := by decide +kernel
theorem dn_i : allR34 [⟨0, base34⟩, ⟨0, one34⟩, ⟨0, one34⟩] [8] = (1, 2, 0) := by decide +kernel
theorem dn_j : allR34 [⟨0, one34⟩, ⟨0, []⟩] [8] = (0, 0, 8) := by decide +kernel
theorem dn_k : allR34 [] [] = (0, 0, 0) := by decide +kernel
theorem dn_l : endR34 ⟨0, one34⟩ [1, 2, 4] = (0, 0) := by decide +kernel
theorem dn_m : endR34 ⟨0, one34⟩ [8] = (2, 0) := by decide +kernel

end Go.Proofs.YtkbocenpkdaogaaDoor

/- How a list of numbers among the arguments reads. -/
namespace Go.Proofs.YtkbocenpkdaogaaDoor
set_option maxRecDepth 100000
open Go.ChangeShapes Go.WideShapes Go.ChangeAt Go.RowKit

section
variable {H : Type} {enc : TypeId × Value → H} {w : World} {base : Nat} {spare : Nat → Bool} {held : Bool}
theorem rows_of_ints : ∀ {rows : List (List Value)} {l : List Int}, All2 (fun cs (a : Int) => cs = irow a ∧ i64B a) rows l → rows.flatten = l.flatMap irow ∧ ∀ a ∈ l, i64B a
  | [], [], _ => ⟨rfl, fun _ h => by cases h⟩
  | r :: rows, a :: l, h => by
    obtain ⟨h1, h2⟩ := rows_of_ints h.2
    refine ⟨by rw [List.flatten_cons, List.flatMap_cons, h1, h.1.1], fun b hb => ?_⟩
    rcases List.mem_cons.1 hb with rfl | hb
    · exact h.1.2
    · exact h2 b hb
theorem read_ints {t : Nat} (ht : Tryd.prog.underlying t = some (.slice 3)) {n : Nat} {cs : List Value} {x : DataW H × List MemPlace} (h : DataW.trod enc Tryd.prog w base spare held n t cs = some x) :
    ∃ (v : Value) (l : List Int), cs = [v] ∧ Nts w v l ∧ ∀ a ∈ l, i64B a := by
  obtain ⟨v, rows, l, rfl, hs, _, ha⟩ := read_slice (k := 1) ht (by kernel_rfl) (by omega) (fun cs (a : Int) => cs = irow a ∧ i64B a) (fun n cs x hl h => by
    obtain ⟨a, e, _, hw⟩ := DataW.trod_int Tryd.underlying3 h
    exact ⟨a, e, by simpa [Lit.wf, IntKind.min, IntKind.max, IntKind.signed, IntKind.bits, i64B] using hw⟩) h
  obtain ⟨e, hw⟩ := rows_of_ints ha
  refine ⟨v, l, rfl, ?_, hw⟩
  unfold Nts
  rw [← e, ← ha.length]
  exact hs
theorem open_ints' {t : Nat} (ht : Tryd.prog.underlying t = some (.slice 3)) {r : Reach} {b0 : Nat} {v : Value} {d : DataW H} {p : List MemPlace} (hv : Value.okWide Tryd.prog w r b0 t v) (h : DataW.Trod enc Tryd.prog w base spare held t v d p) :
    ∃ l : List Int, Nts w v l ∧ ∀ a ∈ l, i64B a := by
  obtain ⟨a0, len, cap, rfl⟩ := okWide_slice ht hv
  obtain ⟨n, hn⟩ := h
  obtain ⟨u, l, e, hl, hw⟩ := read_ints ht hn
  simp only [Value.cells, List.cons.injEq, and_true] at e
  subst e
  exact ⟨l, hl, hw⟩
end

end Go.Proofs.YtkbocenpkdaogaaDoor

/- How a statement is closed: a call that returns true and only makes memory leaves every argument as it read. -/
namespace Go.Proofs.YtkbocenpkdaogaaDoor
set_option maxRecDepth 100000
open Go.ChangeShapes Go.WideShapes Go.ChangeAt Go.RowKit

theorem Trydown : ownKnob Tryd.prog.godebug = none := by kernel_rfl
theorem TrydlaidOut : laidOutB Tryd.prog = true := by kernel_rfl

section
variable {H : Type} {enc : TypeId × Value → H} {P : Program}

theorem trodAll_stays (hl : laidOutB P = true) {W W' : World} (hb : Below W.heap.size W W') : ∀ (ts : List TypeId) (vs : List Value) (ds : List (DataW H)) (ps : List MemPlace), (∀ t ∈ ts, P.readableRec t = true ∧ t < P.types.size) → (∀ x ∈ ps, x.block < W.heap.size) →
    DataW.TrodAll enc P W 0 (fun _ => true) true ts vs ds ps → DataW.TrodAll enc P W' 0 (fun b => decide (b < W.heap.size)) true ts vs ds ps
  | [], [], [], ps, _, _, h => h
  | t :: ts, v :: vs, d :: ds, ps, hr, hlt, h => by
    obtain ⟨p, q, h1, h2, rfl⟩ := h
    refine ⟨p, q, Below.trod hl (hr t (by simp)).1 (hr t (by simp)).2 h1 hb (fun x hx => hlt x (by simp [hx])), trodAll_stays hl hb ts vs ds q (fun t ht => hr t (by simp [ht])) (fun x hx => hlt x (by simp [hx])) h2, rfl⟩
  | [], _ :: _, _, _, _, _, h => h.elim
  | [], [], _ :: _, _, _, _, h => h.elim
  | _ :: _, [], _, _, _, _, h => h.elim
  | _ :: _, _ :: _, [], _, _, _, h => h.elim

theorem trodAll_len {W : World} : ∀ (ts : List TypeId) (vs : List Value) (ds : List (DataW H)) (ps : List MemPlace), DataW.TrodAll enc P W 0 (fun _ => true) true ts vs ds ps → ds.length = ts.length
  | [], [], [], _, _ => rfl
  | _ :: ts, _ :: vs, _ :: ds, _, h => by
    obtain ⟨p, q, _, h2, _⟩ := h
    simp [trodAll_len ts vs ds q h2]
  | [], _ :: _, _, _, h => h.elim
  | [], [], _ :: _, _, h => h.elim
  | _ :: _, [], _, _, h => h.elim
  | _ :: _, _ :: _, [], _, h => h.elim

theorem post_law (hl : laidOutB P = true) {f : Func} {s : ChangeSpec} {tb : TypeId} (hres : f.resultTypes = #[tb]) (htb : P.underlying tb = some .bool) (hrd : f.params.toList.all (fun t => P.readableRec t && decide (t < P.types.size)) = true) (hv : s.vars = [])
    (hs : ∀ ds : List (DataW H), ds.length = f.params.size → s.fn H ds = { results := [.lit (.bool true)], args := ds, vars := [] }) {fresh handsOn : Bool} {W W' : World} {args : Array Value} {ds gs : List (DataW H)} {before : List MemPlace}
    (hW : DataW.Whole enc P f.params.toList s.vars false W args.toList ds gs before) (hb : Below W.heap.size W W') :
    s.post enc P f false fresh handsOn false W args (.bool true) W' := by
  have hW' := hW
  have hlt := hW.lt
  obtain ⟨p, q, hA, hV, rfl, hz, hn⟩ := hW
  rw [hv] at hV
  have hgs : gs = [] := by cases gs <;> simp_all [DataW.TrodVars]
  subst hgs
  have hq : q = [] := hV
  subst hq
  have hlen := trodAll_len _ _ _ _ hA
  have hfn := hs ds (by simpa using hlen)
  refine ⟨ds, [], p ++ [], [], p, [], hW', ?_, ?_, ?_, Below.frame hb _, fun h => by cases h⟩
  · rw [List.append_nil, hfn, hres]
    exact trodAll_mk1 (shut_bool htb true)
  · rw [List.append_nil, hfn]
    refine trodAll_stays hl hb _ _ _ _ (fun t ht => ?_) (fun x hx => hlt x (by simp [hx])) hA
    have := List.all_eq_true.1 hrd t ht
    simpa using this
  · rw [List.append_nil, hfn, hv]
    rfl
end

end Go.Proofs.YtkbocenpkdaogaaDoor

/- How a statement is closed whose row lists the variable perms: what it holds at the start. -/
namespace Go.Proofs.YtkbocenpkdaogaaDoor
set_option maxRecDepth 100000
open Go.ChangeShapes Go.WideShapes Go.ChangeAt Go.RowKit

theorem u8B_of {x : Int} (h : (Lit.int .u8 x).wf = true) : u8B x := by simpa [Lit.wf, IntKind.min, IntKind.max, IntKind.signed, IntKind.bits, u8B] using h
theorem i64B_of {x : Int} (h : (Lit.int .i64 x).wf = true) : i64B x := by simpa [Lit.wf, IntKind.min, IntKind.max, IntKind.signed, IntKind.bits, i64B] using h

theorem gPerms : Tryd.prog.globalNamed "pawnshop/grant.perms" = some 0 := by kernel_rfl
theorem gPermsType : (Tryd.prog.globals[0]?).map (·.type) = some 73 := by kernel_rfl
theorem cellsPerms : Tryd.prog.cellsOf 73 = 5 := by kernel_rfl
theorem cellsU8 : Tryd.prog.cellsOf 5 = 1 := by kernel_rfl

theorem perms_of_laid {W : World} (h : laidMetH Tryd.prog [("pawnshop/grant.perms", Rows.laid_pawnshop_grant_perms)] W) : Perms W := by
  have hT : Lib.TabIs Tryd.prog W "pawnshop/grant.perms" .u8 [0, 4, 1, 2, 3] := Lib.tabIs_of_head (rest := []) gPerms gPermsType Tryd.underlying73 Tryd.underlying5 cellsU8 cellsPerms h
  exact ⟨hT.cell gPerms 0 (by decide), hT.cell gPerms 1 (by decide), hT.cell gPerms 2 (by decide), hT.cell gPerms 3 (by decide), hT.cell gPerms 4 (by decide)⟩

/-- A world for the witness: the settled one, in which perms holds what its initialiser lays. -/
noncomputable def doorWorld (os : Os) : World :=
  { World.holding Tryd.prog os ⟨#[], #[], []⟩ with heap := (World.holding Tryd.prog os ⟨#[], #[], []⟩).heap.modify 0 fun
      | .cells _ t frozen => .cells #[.int .u8 0, .int .u8 4, .int .u8 1, .int .u8 2, .int .u8 3] t frozen
      | o => o }

end Go.Proofs.YtkbocenpkdaogaaDoor
