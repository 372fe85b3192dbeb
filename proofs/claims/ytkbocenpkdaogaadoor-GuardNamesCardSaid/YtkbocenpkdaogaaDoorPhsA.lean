/- Contracts: phases.read, phases.Many, the reference's Many (layer 32). (printed by gen/ph32.py) -/
import Derived.Test.YtkbocenpkdaogaaDoorGrdG
namespace Go.Proofs.YtkbocenpkdaogaaDoor
set_option maxRecDepth 100000
open Go.RowKit

def shiftR (i : Nat) (r : List Item × Int × Int) : List Item × Int × Int := (r.1, r.2.1 + i, r.2.2)
theorem shiftR_zero (r : List Item × Int × Int) : shiftR 0 r = r := by simp [shiftR]
theorem readsR_step {run : List Int} {l : List Item} {tags : List Int} {i : Nat} {t : Int} (ht : tags[i]? = some t) (h0 : (useR l t false run).2.1 = 0) : shiftR i (readsR run l (tags.drop i)) = shiftR (i + 1) (readsR run (useR l t false run).1 (tags.drop (i + 1))) := by
  obtain ⟨hi, rfl⟩ := List.getElem?_eq_some_iff.1 ht
  rw [List.drop_eq_getElem_cons hi, readsR, if_pos h0]
  simp only [shiftR, Prod.mk.injEq, true_and, and_true]
  omega
theorem readsR_stop {run : List Int} {l : List Item} {tags : List Int} {i : Nat} {t : Int} (ht : tags[i]? = some t) (h0 : (useR l t false run).2.1 ≠ 0) : shiftR i (readsR run l (tags.drop i)) = ([], (i : Int), (useR l t false run).2.1) := by
  obtain ⟨hi, rfl⟩ := List.getElem?_eq_some_iff.1 ht
  rw [List.drop_eq_getElem_cons hi, readsR, if_neg h0]
  simp [shiftR]
theorem readsR_end {run : List Int} {l : List Item} {tags : List Int} : shiftR tags.length (readsR run l (tags.drop tags.length)) = (l, (tags.length : Int), 0) := by
  rw [List.drop_length]
  simp [shiftR, readsR]

/-- A slice of items that is the call's own, a number and a reason (and an error). -/
def RetON (w : World) (B : Nat) (r : List Item × Int × Int) (en : Ending) (w' : World) : Prop := ∃ v, en = .returned (.tuple #[v, .int .i64 r.2.1, .int .u8 r.2.2]) ∧ OwnI w' B v r.1 ∧ Ext w w'
def RetONE (w : World) (r : List Item × Int × Int × Int) (en : Ending) (w' : World) : Prop := ∃ v, en = .returned (.tuple #[v, .int .i64 r.2.1, .int .u8 r.2.2.1, .int .i64 r.2.2.2]) ∧ OwnI w' w.heap.size v r.1 ∧ Ext w w'

set_option maxHeartbeats 1600000 in
theorem phases_read {l : List Item} {run tags : List Int} {v r g : Value} {w : World} {B : Nat} (hB : B ≤ w.heap.size) (hl : OwnI w B v l) (hr : Nts w r run) (ht : Nts w g tags) :
    Calls Tryd.prog 51 #[v, r, g] w (RetON w B (readsR run l tags)) := by
  have hL := Lib.hid hl
  have hR := Lib.hid hr
  have hT := Lib.hid ht
  obtain ⟨a, cp, rfl, -⟩ := hl.its.form
  obtain ⟨a2, cp2, rfl, -⟩ := hr.form
  obtain ⟨a3, cp3, rfl, hlc3, hcm3, -⟩ := ht.form
  unfold maxLen at hcm3
  clear hl hr ht
  go_enter Tryd.func51, Tryd.ntmps51
  go_wp2
  go_loopw [0, 16] (fun sv iv wr => ∃ (i : Nat) (lc : List Item), i ≤ tags.length ∧ iv = .int .i64 i ∧ OwnI wr B sv lc ∧ Ext w wr ∧ Hid (readsR run l tags = shiftR i (readsR run lc (tags.drop i)))) (fun _ iv _ => tags.length - (intOf iv).toNat)
  case atStart => exact ⟨0, l, Nat.zero_le _, rfl, hL.out, Ext.refl _, Hid.mk (by rw [List.drop_zero, shiftR_zero])⟩
  case round =>
    obtain ⟨i, lc, hi, rfl, hO, hX, hrd⟩ := hrel
    by_cases hlt : i < tags.length
    · obtain ⟨t, htg⟩ : ∃ t, tags[i]? = some t := ⟨tags[i], by simp [hlt]⟩
      obtain ⟨b0, o0, rfl, hb0, c0⟩ := (hT.out.ext hX).cell htg
      obtain ⟨⟨N, why, er⟩, hu⟩ : ∃ x, useR lc t false run = x := ⟨_, rfl⟩
      by_cases hw : why = 0
      · have hst : Hid (shiftR i (readsR run lc (tags.drop i)) = shiftR (i + 1) (readsR run N (tags.drop (i + 1)))) := Hid.mk (by
          have h := readsR_step (run := run) (l := lc) htg (by rw [hu]; exact hw)
          rw [hu] at h
          exact h)
        subst hw
        replace hu := Lib.hid hu
        clear htg hb0
        have hO' := Lib.hid hO
        go_wp2_with fail
        refine (guard_ReadO t hO.its (hR.out.ext hX)).mono ?_
        rintro e w1 ⟨v1, rfl, h1, hE1⟩
        rw [hu.out] at h1 ⊢
        obtain ⟨b1, d1, rfl, -⟩ := h1.its.form
        have hs := Nat.le_trans hB hX.size
        go_wp2
        go_roundw
        case rel => exact ⟨i + 1, N, by omega, by go_num, h1.mono hs, hX.trans hE1, Hid.mk (hrd.out.trans hst.out)⟩
        case measure => simp [intOf]; omega
      · have hst : Hid (readsR run l tags = ([], (i : Int), why)) := Hid.mk (by
          rw [hrd.out]
          have h := readsR_stop (run := run) (l := lc) htg (by rw [hu]; exact hw)
          rw [hu] at h
          exact h)
        have z0 : (why == 0) = false := beq_eq_false_iff_ne.2 hw
        replace hu := Lib.hid hu
        clear htg hb0 hw
        go_wp2_with fail
        refine (guard_ReadO t hO.its (hR.out.ext hX)).mono ?_
        rintro e w1 ⟨v1, rfl, h1, hE1⟩
        rw [hu.out] at h1 ⊢
        obtain ⟨b1, d1, rfl, -⟩ := h1.its.form
        go_wp2
        go_ret3
        rw [hst.out]
        exact ⟨_, rfl, OwnI.nil _ _, hX.trans hE1⟩
    · have hie : i = tags.length := by omega
      subst hie
      have hst : Hid (readsR run l tags = (lc, (tags.length : Int), 0)) := Hid.mk (by rw [hrd.out, readsR_end])
      go_wp2
      go_ret3
      rw [hst.out]
      exact ⟨_, rfl, hO, hX⟩

theorem manyR_run {l : List Item} {tags run : List Int} (h : okR run = false) : manyR l tags run = ([], 0, 0, 8) := by simp [manyR, h]
theorem manyR_bad {l : List Item} {tags run : List Int} (h : okR run = true) (hs : okS l = false) : manyR l tags run = ([], 0, 0, 8) := by simp [manyR, h, hs]
theorem manyR_many {l : List Item} {tags run : List Int} (h : okR run = true) (hs : okS l = true) (hn : 600 < tags.length) : manyR l tags run = ([], 0, 0, 4) := by simp [manyR, h, hs, hn]
theorem manyR_ok {l : List Item} {tags run : List Int} (h : okR run = true) (hs : okS l = true) (hn : ¬ 600 < tags.length) : manyR l tags run = ((readsR run l tags).1, (readsR run l tags).2.1, (readsR run l tags).2.2, 0) := by simp [manyR, h, hs, hn]

set_option maxHeartbeats 1600000 in
theorem phases_Many {l : List Item} {run tags : List Int} {v r g : Value} {w : World} (hl : Its w v l) (ht : Nts w g tags) (hr : Nts w r run) :
    Calls Tryd.prog 27 #[v, g, r] w (RetONE w (manyR l tags run)) := by
  have hL := Lib.hid hl
  have hR := Lib.hid hr
  have hT := Lib.hid ht
  obtain ⟨a, cp, rfl, -⟩ := hl.form
  obtain ⟨a2, cp2, rfl, -⟩ := hr.form
  obtain ⟨a3, cp3, rfl, hlc3, hcm3, -⟩ := ht.form
  unfold maxLen at hcm3
  clear hl hr ht
  cases hok : okR run
  · have h8 := Lib.hid (runErr_bad hok)
    have hres := Lib.hid (manyR_run (l := l) (tags := tags) hok)
    clear hok
    go_enter Tryd.func27, Tryd.ntmps27
    go_wp2_with fail
    refine (guard_Check hR.out).mono ?_
    rintro e w1 ⟨rfl, rfl⟩
    rw [h8.out]
    go_wp2
    refine bodyPost_ret (results_tmp4 rfl _ _ _) rfl ?_
    rw [hres.out]
    exact ⟨_, rfl, OwnI.nil _ _, Ext.refl _⟩
  · have h0 := Lib.hid (runErr_ok hok)
    cases hsk : okS l
    · have hc : Hid (chk l = 8) := Hid.mk (by simp [chk, hsk])
      have hres := Lib.hid (manyR_bad (tags := tags) hok hsk)
      clear hok hsk
      go_enter Tryd.func27, Tryd.ntmps27
      go_wp2_with fail
      refine (guard_Check hR.out).mono ?_
      rintro e w1 ⟨rfl, rfl⟩
      rw [h0.out]
      go_wp2_with fail
      refine (items_Check hL.out).mono ?_
      rintro e w1 ⟨rfl, hE1⟩
      rw [hc.out]
      go_wp2
      refine bodyPost_ret (results_tmp4 rfl _ _ _) rfl ?_
      rw [hres.out]
      exact ⟨_, rfl, OwnI.nil _ _, hE1⟩
    · have hc : Hid (chk l = 0) := Hid.mk (by simp [chk, hsk])
      have hl6 : l.length ≤ 1000000 := by simp [okS] at hsk; omega
      by_cases hn : 600 < tags.length
      · have hres := Lib.hid (manyR_many hok hsk hn)
        have q1 : decide ((600 : Int) < (tags.length : Int)) = true := decide_eq_true (by omega)
        clear hok hsk hn
        go_enter Tryd.func27, Tryd.ntmps27
        go_wp2_with fail
        refine (guard_Check hR.out).mono ?_
        rintro e w1 ⟨rfl, rfl⟩
        rw [h0.out]
        go_wp2_with fail
        refine (items_Check hL.out).mono ?_
        rintro e w1 ⟨rfl, hE1⟩
        rw [hc.out]
        go_wp2
        refine bodyPost_ret (results_tmp4 rfl _ _ _) rfl ?_
        rw [hres.out]
        exact ⟨_, rfl, OwnI.nil _ _, hE1⟩
      · have hres := Lib.hid (manyR_ok hok hsk hn)
        have q1 : decide ((600 : Int) < (tags.length : Int)) = false := decide_eq_false (by omega)
        have ht6 : tags.length ≤ 600 := by omega
        clear hok hsk hn
        go_enter Tryd.func27, Tryd.ntmps27
        go_wp2_with fail
        refine (guard_Check hR.out).mono ?_
        rintro e w1 ⟨rfl, rfl⟩
        rw [h0.out]
        go_wp2_with fail
        refine (items_Check hL.out).mono ?_
        rintro e w1 ⟨rfl, hE1⟩
        rw [hc.out]
        go_wp2_with fail
        refine (clone_Stack (hL.out.ext hE1) hl6).mono ?_
        rintro e w2 ⟨v2, rfl, ho, hE2⟩
        obtain ⟨b1, d1, rfl, -⟩ := (Own.sl ho).slice_form
        have hB := Nat.le_trans hE1.size hE2.size
        go_wp2_with fail
        refine (phases_read hB (Own.mono ho hE1.size) ((hR.out.ext hE1).ext hE2) ((hT.out.ext hE1).ext hE2)).mono ?_
        rintro e w3 ⟨v3, rfl, h3, hE3⟩
        obtain ⟨b3, d3, rfl, -⟩ := h3.its.form
        go_wp2
        refine bodyPost_ret (results_tmp4 rfl _ _ _) rfl ?_
        rw [hres.out]
        exact ⟨_, rfl, h3, (hE1.trans hE2).trans hE3⟩


end Go.Proofs.YtkbocenpkdaogaaDoor
