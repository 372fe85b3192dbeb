/- Contracts: the guarded accesses of layer 31, the program's and the reference's; what they return is the call's own. (printed by gen/grdg.py) -/
import Derived.Test.YtkbocenpkdaogaaDoorGrdE
import Derived.Test.YtkbocenpkdaogaaDoorGraD
namespace Go.Proofs.YtkbocenpkdaogaaDoor
set_option maxRecDepth 100000
open Go.RowKit

def OwnI (w : World) (B : Nat) (v : Value) (l : List Item) : Prop := Own w B 23 3 v l.length (l.flatMap Item.row)
theorem OwnI.its {w : World} {B : Nat} {v : Value} {l : List Item} (h : OwnI w B v l) : Its w v l := Own.sl h
theorem OwnI.ext {w w' : World} {B : Nat} {v : Value} {l : List Item} (h : OwnI w B v l) (he : Ext w w') : OwnI w' B v l := Own.ext h he
theorem OwnI.mono {w : World} {B B' : Nat} {v : Value} {l : List Item} (h : OwnI w B v l) (hB : B' ≤ B) : OwnI w B' v l := Own.mono h hB
theorem OwnI.nil (w : World) (B : Nat) : OwnI w B (.slice none 0 0) [] := Own.nil _ _ _ _
/-- A slice of items that is the call's own, a reason, and an error. -/
def RetSO (w : World) (l : List Item) (why n : Int) (en : Ending) (w' : World) : Prop := ∃ v, en = .returned (.tuple #[v, .int .u8 why, .int .i64 n]) ∧ OwnI w' w.heap.size v l ∧ Ext w w'
/-- What told hands on: the stack as it came, or none. -/
def RetTold (w : World) (v : Value) (l : List Item) (r : List Item × Int × Int) (en : Ending) (w' : World) : Prop := ∃ v', en = .returned (.tuple #[v', .int .u8 r.2.1, .int .i64 r.2.2]) ∧ ((v' = v ∧ r.1 = l) ∨ (v' = .slice none 0 0 ∧ r.1 = [])) ∧ Ext w w'
theorem RetTold.own {w0 w w' : World} {v : Value} {l : List Item} {r : List Item × Int × Int} {en : Ending} (h : RetTold w v l r en w') (hv : OwnI w w0.heap.size v l) (hE : Ext w0 w) : RetSO w0 r.1 r.2.1 r.2.2 en w' := by
  obtain ⟨v', rfl, h | h, h3⟩ := h
  · obtain ⟨rfl, h2⟩ := h
    rw [h2]
    exact ⟨_, rfl, hv.ext h3, hE.trans h3⟩
  · obtain ⟨rfl, h2⟩ := h
    rw [h2]
    exact ⟨_, rfl, OwnI.nil _ _, hE.trans h3⟩

set_option maxHeartbeats 800000 in
theorem guard_toldX {l gone : List Item} {run : List Int} {v u r : Value} {w : World} (why e : Int) (hl : Its w v l) (hg : Its w u gone) (hr : Nts w r run) (hok : okR run = true) :
    Calls Tryd.prog 49 #[v, u, .int .u8 why, .int .i64 e, r] w (RetTold w v l (toldR' l gone why e run)) := by
  have hG := Lib.hid hg
  have hR := Lib.hid (And.intro hr hok)
  obtain ⟨a, cp, rfl, -⟩ := hl.form
  obtain ⟨a2, cp2, rfl, -⟩ := hg.form
  obtain ⟨a3, cp3, rfl, -⟩ := hr.form
  clear hl hg hr hok
  by_cases he : e = 0
  · have q1 : (e == 0) = true := beq_iff_eq.2 he
    by_cases hw : why = 0
    · have q2 : (why == 0) = true := beq_iff_eq.2 hw
      cases hf : firstR gone run with
      | none =>
        have hix : Hid (idxOf (firstR gone run) = -1) := Hid.mk (by rw [hf]; rfl)
        have hres := Lib.hid (toldR'_no (l := l) (gone := gone) (why := why) (e := e) (run := run) (by rw [hf]; simp))
        subst he hw
        clear hf q1 q2
        go_enter Tryd.func49, Tryd.ntmps49
        go_wp2_with fail
        refine (guard_first hG.out hR.out.1 hR.out.2).mono ?_
        rintro e w1 ⟨rfl, hE1⟩
        rw [hix.out]
        go_wp2
        refine bodyPost_ret (results_tmp3 rfl _ _ _) rfl ?_
        rw [hres.out]
        exact ⟨_, rfl, .inl ⟨rfl, rfl⟩, hE1⟩
      | some i =>
        have hix : Hid (idxOf (firstR gone run) = (i : Int)) := Hid.mk (by rw [hf]; rfl)
        have hres := Lib.hid (toldR'_yes (l := l) (gone := gone) (why := why) (e := e) (run := run) ⟨he, hw, by rw [hf]; rfl⟩)
        have hi0 : (0 : Int) ≤ (i : Int) := by omega
        subst he hw
        clear hf q1 q2
        go_enter Tryd.func49, Tryd.ntmps49
        go_wp2_with fail
        refine (guard_first hG.out hR.out.1 hR.out.2).mono ?_
        rintro e w1 ⟨rfl, hE1⟩
        rw [hix.out]
        go_wp2
        refine bodyPost_ret (results_tmp3 rfl _ _ _) rfl ?_
        rw [hres.out]
        exact ⟨_, rfl, .inr ⟨rfl, rfl⟩, hE1⟩
    · have q2 : (why == 0) = false := beq_eq_false_iff_ne.2 hw
      have hres := Lib.hid (toldR'_no (l := l) (gone := gone) (why := why) (e := e) (run := run) (fun h => hw h.2.1))
      subst he
      clear hw
      go_enter Tryd.func49, Tryd.ntmps49
      go_wp2
      refine bodyPost_ret (results_tmp3 rfl _ _ _) rfl ?_
      rw [hres.out]
      exact ⟨_, rfl, .inl ⟨rfl, rfl⟩, Ext.refl _⟩
  · have q1 : (e == 0) = false := beq_eq_false_iff_ne.2 he
    have hres := Lib.hid (toldR'_no (l := l) (gone := gone) (why := why) (e := e) (run := run) (fun h => he h.1))
    clear he
    go_enter Tryd.func49, Tryd.ntmps49
    go_wp2
    refine bodyPost_ret (results_tmp3 rfl _ _ _) rfl ?_
    rw [hres.out]
    exact ⟨_, rfl, .inl ⟨rfl, rfl⟩, Ext.refl _⟩



theorem acc_empty {l : List Item} {tag : Int} {write : Bool} (h : ¬ (chk l = 0 ∧ accW l tag write = 0)) : accL l tag write = [] := by
  unfold chk accW at h
  unfold accL
  cases hk : okS l
  · rfl
  · simp only [hk, if_true, true_and] at h ⊢
    unfold usedL usedW at *
    cases hf : findAt l tag write with
    | none => rfl
    | some i => simp [hf] at h
theorem retagR_empty {l : List Item} {k old : Int} {x : Item} (h : ¬ ((retagR l k old x).2.2.2 = 0 ∧ (retagR l k old x).2.2.1 = 0)) : (retagR l k old x).1 = [] := by
  unfold retagR at *
  by_cases h1 : okS l = true
  · rw [if_pos h1] at *
    by_cases h2 : (kindOk k && argOk x) = true
    · rw [if_pos h2] at *
      by_cases h3 : usedW l old (writesOf k) = 0
      · rw [if_pos h3] at *
        by_cases h4 : (usedL l old (writesOf k)).length = 600
        · rw [if_pos h4]
        · rw [if_neg h4] at h; exact absurd ⟨rfl, rfl⟩ h
      · rw [if_neg h3]
    · rw [if_neg h2]
  · rw [if_neg h1]


set_option maxHeartbeats 800000 in
theorem guard_ReadO {l : List Item} {run : List Int} {v r : Value} {w : World} (tag : Int) (hl : Its w v l) (hr : Nts w r run) :
    Calls Tryd.prog 17 #[v, .int .i64 tag, r] w (RetSO w (useR l tag false run).1 (useR l tag false run).2.1 (useR l tag false run).2.2) := by
  have hL := Lib.hid hl
  have hR := Lib.hid hr
  obtain ⟨a, cp, rfl, -⟩ := hl.form
  obtain ⟨a3, cp3, rfl, -⟩ := hr.form
  clear hl hr
  cases hok : okR run
  · have h8 := Lib.hid (runErr_bad hok)
    have hres : Hid (useR l tag false run = ([], 0, 8)) := Hid.mk (by simp [useR, hok])
    clear hok
    go_enter Tryd.func17, Tryd.ntmps17
    go_wp2_with fail
    refine (guard_Check hR.out).mono ?_
    rintro e w1 ⟨rfl, rfl⟩
    rw [h8.out]
    go_wp2
    refine bodyPost_ret (results_tmp3 rfl _ _ _) rfl ?_
    rw [hres.out]
    exact ⟨_, rfl, OwnI.nil _ _, Ext.refl _⟩
  · have h0 := Lib.hid (runErr_ok hok)
    have hO := Lib.hid hok
    have hres : Hid (useR l tag false run = toldR' (accL l tag false) (accG l tag false) (accW l tag false) (chk l) run) := Hid.mk (by simp [useR, hok])
    clear hok
    go_enter Tryd.func17, Tryd.ntmps17
    go_wp2_with fail
    refine (guard_Check hR.out).mono ?_
    rintro e w1 ⟨rfl, rfl⟩
    rw [h0.out]
    go_wp2_with fail
    refine (access_ReadO tag hL.out).mono ?_
    rintro e w1 ⟨v1, u1, rfl, hv1, hu1, -, hE1⟩
    obtain ⟨b1, d1, rfl, -⟩ := (Own.sl hv1).slice_form
    obtain ⟨b2, d2, rfl, -⟩ := (Own.sl hu1).slice_form
    go_wp2_with fail
    refine (guard_toldX _ _ (Own.sl hv1) (Own.sl hu1) (hR.out.ext hE1) hO.out).mono ?_
    rintro e w2 hT
    obtain ⟨v2, rfl, hv2, hE2⟩ := RetTold.own hT hv1 hE1
    rw [← hres.out] at hv2 ⊢
    obtain ⟨b3, d3, rfl, -⟩ := hv2.sl.slice_form
    go_wp2
    refine bodyPost_ret (results_tmp3 rfl _ _ _) rfl ?_
    exact ⟨_, rfl, hv2, hE2⟩


set_option maxHeartbeats 800000 in
theorem guard_WriteO {l : List Item} {run : List Int} {v r : Value} {w : World} (tag : Int) (hl : Its w v l) (hr : Nts w r run) :
    Calls Tryd.prog 18 #[v, .int .i64 tag, r] w (RetSO w (useR l tag true run).1 (useR l tag true run).2.1 (useR l tag true run).2.2) := by
  have hL := Lib.hid hl
  have hR := Lib.hid hr
  obtain ⟨a, cp, rfl, -⟩ := hl.form
  obtain ⟨a3, cp3, rfl, -⟩ := hr.form
  clear hl hr
  cases hok : okR run
  · have h8 := Lib.hid (runErr_bad hok)
    have hres : Hid (useR l tag true run = ([], 0, 8)) := Hid.mk (by simp [useR, hok])
    clear hok
    go_enter Tryd.func18, Tryd.ntmps18
    go_wp2_with fail
    refine (guard_Check hR.out).mono ?_
    rintro e w1 ⟨rfl, rfl⟩
    rw [h8.out]
    go_wp2
    refine bodyPost_ret (results_tmp3 rfl _ _ _) rfl ?_
    rw [hres.out]
    exact ⟨_, rfl, OwnI.nil _ _, Ext.refl _⟩
  · have h0 := Lib.hid (runErr_ok hok)
    have hO := Lib.hid hok
    have hres : Hid (useR l tag true run = toldR' (accL l tag true) (accG l tag true) (accW l tag true) (chk l) run) := Hid.mk (by simp [useR, hok])
    clear hok
    go_enter Tryd.func18, Tryd.ntmps18
    go_wp2_with fail
    refine (guard_Check hR.out).mono ?_
    rintro e w1 ⟨rfl, rfl⟩
    rw [h0.out]
    go_wp2_with fail
    refine (access_WriteO tag hL.out).mono ?_
    rintro e w1 ⟨v1, u1, rfl, hv1, hu1, -, hE1⟩
    obtain ⟨b1, d1, rfl, -⟩ := (Own.sl hv1).slice_form
    obtain ⟨b2, d2, rfl, -⟩ := (Own.sl hu1).slice_form
    go_wp2_with fail
    refine (guard_toldX _ _ (Own.sl hv1) (Own.sl hu1) (hR.out.ext hE1) hO.out).mono ?_
    rintro e w2 hT
    obtain ⟨v2, rfl, hv2, hE2⟩ := RetTold.own hT hv1 hE1
    rw [← hres.out] at hv2 ⊢
    obtain ⟨b3, d3, rfl, -⟩ := hv2.sl.slice_form
    go_wp2
    refine bodyPost_ret (results_tmp3 rfl _ _ _) rfl ?_
    exact ⟨_, rfl, hv2, hE2⟩







set_option maxHeartbeats 800000 in
theorem guard_RetagO {l : List Item} {run : List Int} {k : Int} {v r : Value} {w : World} (hp : Perms w) (hk : u8B k) (old : Int) (x : Item) (hl : Its w v l) (hr : Nts w r run) :
    Calls Tryd.prog 19 #[v, .int .u8 k, .int .i64 old, x.val, r] w (RetSO w (tagR l k old x run).1 (tagR l k old x run).2.1 (tagR l k old x run).2.2) := by
  have hL := Lib.hid hl
  have hR := Lib.hid hr
  have hP := Lib.hid hp
  obtain ⟨a, cp, rfl, -⟩ := hl.form
  obtain ⟨a3, cp3, rfl, -⟩ := hr.form
  clear hl hr hp
  cases hok : okR run
  · have h8 := Lib.hid (runErr_bad hok)
    have hres : Hid (tagR l k old x run = ([], 0, 8)) := Hid.mk (by simp [tagR, hok])
    clear hok
    obtain ⟨xp, xt, xc⟩ := x
    unfold Item.val
    go_enter Tryd.func19, Tryd.ntmps19
    go_wp2_with fail
    refine (guard_Check (hR.out.ext ?_)).mono ?_
    · exact ((Ext.refl _).alloc _)
    rintro e w1 ⟨rfl, rfl⟩
    rw [h8.out]
    go_wp2
    refine bodyPost_ret (results_tmp3 rfl _ _ _) rfl ?_
    rw [hres.out]
    exact ⟨_, rfl, OwnI.nil _ _, by first | exact Ext.refl _ | exact (Ext.refl _).alloc _⟩
  · have h0 := Lib.hid (runErr_ok hok)
    have hO := Lib.hid hok
    have hres : Hid (tagR l k old x run = toldR' (retagR l k old x).1 (retagR l k old x).2.1 (retagR l k old x).2.2.1 (retagR l k old x).2.2.2 run) := Hid.mk (by simp [tagR, hok])
    clear hok
    obtain ⟨xp, xt, xc⟩ := x
    unfold Item.val
    have hE0 : Ext w (w.alloc (.cells #[.int .u8 xp, .int .i64 xt, .int .i64 xc] 23)) := (Ext.refl _).alloc _
    go_enter Tryd.func19, Tryd.ntmps19
    go_wp2_with fail
    refine (guard_Check (hR.out.ext hE0)).mono ?_
    rintro e w1 ⟨rfl, rfl⟩
    rw [h0.out]
    go_wp2_with fail
    refine (grant_RetagO (hP.out.ext hE0) hk old ⟨xp, xt, xc⟩ (hL.out.ext hE0)).mono ?_
    rintro e w1 ⟨v1, u1, rfl, hv1, hu1, -, hE1⟩
    obtain ⟨b1, d1, rfl, -⟩ := (Own.sl hv1).slice_form
    obtain ⟨b2, d2, rfl, -⟩ := (Own.sl hu1).slice_form
    go_wp2_with fail
    refine (guard_toldX _ _ (Own.sl hv1) (Own.sl hu1) ((hR.out.ext hE0).ext hE1) hO.out).mono ?_
    rintro e w2 hT
    replace hv1 := hv1.mono hE0.size
    obtain ⟨v2, rfl, hv2, hE2⟩ := RetTold.own hT hv1 (hE0.trans hE1)
    rw [← hres.out] at hv2 ⊢
    obtain ⟨b3, d3, rfl, -⟩ := hv2.sl.slice_form
    go_wp2
    refine bodyPost_ret (results_tmp3 rfl _ _ _) rfl ?_
    exact ⟨_, rfl, hv2, hE2⟩

end Go.Proofs.YtkbocenpkdaogaaDoor
