/- Contracts: Phase, Reserve, Activate (layer 32), the program's and the reference's; the helpers of its statements. (printed by gen/ph32.py) -/
import Derived.Test.YtkbocenpkdaogaaDoorPhsA
import Derived.Test.YtkbocenpkdaogaaDoorLaw31A
namespace Go.Proofs.YtkbocenpkdaogaaDoor
set_option maxRecDepth 100000
open Go.RowKit

theorem phaseR_bad {l : List Item} {tag : Int} (h : okS l = false) : phaseR l tag = (0, 8) := by simp [phaseR, h]
theorem phaseR_ok {l : List Item} {tag : Int} (h : okS l = true) : phaseR l tag = (phaseOf l tag, 0) := by simp [phaseR, h]
theorem phaseOf_none {l : List Item} {tag : Int} (h : findAt l tag true = none) : phaseOf l tag = 0 := by simp [phaseOf, h]
theorem phaseOf_some {l : List Item} {tag : Int} {i : Nat} {x : Item} (h : findAt l tag true = some i) (hx : l[i]? = some x) : phaseOf l tag = if x.p = 2 then 1 else 2 := by
  simp only [phaseOf, h, hx, Option.any_some]
  by_cases hp : x.p = 2
  · simp [hp]
  · simp [hp]
theorem granted_perm {l : List Item} {tag : Int} {i : Nat} (hok : okS l = true) (h : findAt l tag true = some i) : ∃ x, l[i]? = some x ∧ (x.p = 1 ∨ x.p = 2 ∨ x.p = 3) := by
  obtain ⟨x, hx, hg, -⟩ := findAt_is h
  refine ⟨x, hx, ?_⟩
  have hxok : x.ok = true := by
    unfold okS at hok
    simp only [Bool.and_eq_true] at hok
    exact List.all_eq_true.1 hok.2 x (List.mem_of_getElem? hx)
  unfold Item.ok at hxok
  unfold grants at hg
  simp only [Bool.and_eq_true, Bool.or_eq_true, beq_iff_eq, Bool.true_and, Bool.not_eq_true', beq_eq_false_iff_ne] at hxok hg
  omega

set_option maxHeartbeats 800000 in
theorem phases_Phase {l : List Item} {v : Value} {w : World} (tag : Int) (hl : Its w v l) :
    Calls Tryd.prog 26 #[v, .int .i64 tag] w fun e w' => e = .returned (.tuple #[.int .u8 (phaseR l tag).1, .int .i64 (phaseR l tag).2]) ∧ Ext w w' := by
  have hL := Lib.hid hl
  obtain ⟨a, cp, rfl, hlc, hcm, -⟩ := hl.form
  clear hl
  cases hok : okS l
  · have hi : Hid (findIx l tag true = 0) := Hid.mk (by simp [findIx, hok])
    have he : Hid (findErr l tag true = 8) := Hid.mk (by simp [findErr, hok])
    have hres := Lib.hid (phaseR_bad (tag := tag) hok)
    clear hok
    go_enter Tryd.func26, Tryd.ntmps26
    go_wp2_with fail
    refine (items_Find tag true hL.out).mono ?_
    rintro e w1 ⟨rfl, hE1⟩
    rw [hi.out, he.out]
    go_wp2
    go_ret2
    exact ⟨by rw [hres.out] <;> rfl, hE1⟩
  · cases hf : findAt l tag true with
    | none =>
      have hi : Hid (findIx l tag true = 0) := Hid.mk (by simp [findIx, hok, hf])
      have he : Hid (findErr l tag true = 6) := Hid.mk (by simp [findErr, hok, hf])
      have hres : Hid (phaseR l tag = (0, 0)) := Hid.mk (by rw [phaseR_ok hok, phaseOf_none hf])
      clear hok hf
      go_enter Tryd.func26, Tryd.ntmps26
      go_wp2_with fail
      refine (items_Find tag true hL.out).mono ?_
      rintro e w1 ⟨rfl, hE1⟩
      rw [hi.out, he.out]
      go_wp2
      go_ret2
      exact ⟨by rw [hres.out] <;> rfl, hE1⟩
    | some i =>
      obtain ⟨x, hx, hp⟩ := granted_perm hok hf
      have hil := (List.getElem?_eq_some_iff.1 hx).1
      have hi : Hid (findIx l tag true = (i : Int)) := Hid.mk (by simp [findIx, hok, hf])
      have he : Hid (findErr l tag true = 0) := Hid.mk (by simp [findErr, hok, hf])
      have hres : Hid (phaseR l tag = (if x.p = 2 then 1 else 2, 0)) := Hid.mk (by rw [phaseR_ok hok, phaseOf_some hf hx])
      have hX := Lib.hid hx
      have hi0 : (0 : Int) ≤ (i : Int) := by omega
      have hi1 : (i : Int) < (l.length : Int) := by omega
      obtain ⟨xp, xt, xc⟩ := x
      simp only at hp
      clear hok hf hx
      rcases hp with rfl | rfl | rfl
      all_goals
        go_enter Tryd.func26, Tryd.ntmps26
        go_wp2_with fail
        refine (items_Find tag true hL.out).mono ?_
        rintro e w1 ⟨rfl, hE1⟩
        rw [hi.out, he.out]
        obtain ⟨b0, o0, rfl, hb0, c0, -, -⟩ := (hL.out.ext hE1).cell hX.out
        go_wp2
        go_ret2
        exact ⟨by rw [hres.out] <;> rfl, hE1⟩



set_option maxHeartbeats 400000 in
theorem phases_Reserve {l : List Item} {run : List Int} {v r : Value} {w : World} (hp : Perms w) (old tag : Int) (hl : Its w v l) (hr : Nts w r run) :
    Calls Tryd.prog 23 #[v, .int .i64 old, .int .i64 tag, r] w (RetSO w (tagR l 3 old ⟨0, tag, 0⟩ run).1 (tagR l 3 old ⟨0, tag, 0⟩ run).2.1 (tagR l 3 old ⟨0, tag, 0⟩ run).2.2) := by
  have hC := Lib.hid (guard_RetagO (k := 3) hp (by unfold u8B; decide) old ⟨0, tag, 0⟩ hl hr)
  obtain ⟨a, cp, rfl, -⟩ := hl.form
  obtain ⟨a3, cp3, rfl, -⟩ := hr.form
  obtain ⟨⟨N, why, er⟩, hu⟩ : ∃ x, tagR l 3 old ⟨0, tag, 0⟩ run = x := ⟨_, rfl⟩
  rw [hu]
  replace hu := Lib.hid hu
  clear hl hr
  go_enter Tryd.func23, Tryd.ntmps23
  go_wp2_with fail
  refine hC.out.mono ?_
  rintro e w1 ⟨v1, rfl, h1, hE⟩
  rw [hu.out] at h1 ⊢
  obtain ⟨b1, d1, rfl, -⟩ := h1.its.form
  go_wp2
  refine bodyPost_ret (results_tmp3 rfl _ _ _) rfl ?_
  exact ⟨_, rfl, h1, hE⟩


set_option maxHeartbeats 400000 in
theorem phases_Activate {l : List Item} {run : List Int} {v r : Value} {w : World} (tag : Int) (hl : Its w v l) (hr : Nts w r run) :
    Calls Tryd.prog 25 #[v, .int .i64 tag, r] w (RetSO w (useR l tag true run).1 (useR l tag true run).2.1 (useR l tag true run).2.2) := by
  have hC := Lib.hid (guard_WriteO tag hl hr)
  obtain ⟨a, cp, rfl, -⟩ := hl.form
  obtain ⟨a3, cp3, rfl, -⟩ := hr.form
  obtain ⟨⟨N, why, er⟩, hu⟩ : ∃ x, useR l tag true run = x := ⟨_, rfl⟩
  rw [hu]
  replace hu := Lib.hid hu
  clear hl hr
  go_enter Tryd.func25, Tryd.ntmps25
  go_wp2_with fail
  refine hC.out.mono ?_
  rintro e w1 ⟨v1, rfl, h1, hE⟩
  rw [hu.out] at h1 ⊢
  obtain ⟨b1, d1, rfl, -⟩ := h1.its.form
  go_wp2
  refine bodyPost_ret (results_tmp3 rfl _ _ _) rfl ?_
  exact ⟨_, rfl, h1, hE⟩


set_option maxHeartbeats 800000 in
theorem law32_is {l : List Item} {v : Value} {w : World} (tag want : Int) (hl : Its w v l) :
    Calls Tryd.prog 28 #[v, .int .i64 tag, .int .u8 want] w fun e w' => e = .returned (.bool ((phaseR l tag).2 == 0 && (phaseR l tag).1 == want)) ∧ Ext w w' := by
  have hC := Lib.hid (phases_Phase tag hl)
  obtain ⟨a, cp, rfl, -⟩ := hl.form
  obtain ⟨⟨p, e⟩, hu⟩ : ∃ x, phaseR l tag = x := ⟨_, rfl⟩
  rw [hu]
  replace hu := Lib.hid hu
  clear hl
  cases h1 : e == 0 <;> cases h2 : p == want
  all_goals
    go_enter Tryd.func28, Tryd.ntmps28
    go_wp2_with fail
    refine hC.out.mono ?_
    rintro e w1 ⟨rfl, hE⟩
    rw [hu.out]
    go_wp2
    go_ret
    exact ⟨by simp [h1, h2], hE⟩

def base32 : List Item := [⟨1, 1, 0⟩]
def ex32s : List Item := [⟨1, 1, 0⟩, ⟨2, 2, 0⟩]
def ex32a : List Item := [⟨1, 1, 0⟩, ⟨1, 2, 0⟩]
theorem ex32_1 : tagR base32 3 1 ⟨0, 2, 0⟩ [] = (ex32s, 0, 0) := by decide
theorem ex32_2 : manyR ex32s [1, 2, 1] [] = (ex32s, 3, 0, 0) := by decide
theorem ex32_3 : useR ex32s 2 true [] = (ex32a, 0, 0) := by decide
theorem ex32_4 : useR ex32s 1 true [] = (base32, 0, 0) := by decide
theorem ex32_5 : ((phaseR ex32s 2).2 == 0 && (phaseR ex32s 2).1 == 1) = true := by decide
theorem ex32_6 : ((phaseR ex32a 2).2 == 0 && (phaseR ex32a 2).1 == 2) = true := by decide
theorem ex32_7 : ((phaseR base32 2).2 == 0 && (phaseR base32 2).1 == 0) = true := by decide

set_option maxHeartbeats 400000 in
theorem law32_base (w : World) : Calls Tryd.prog 24 #[] w (RetL 23 w base32) := by
  have hO := Own.lit (B := w.heap.size) (e := 23) (k := 3) w #[.int .u8 1, .int .i64 1, .int .i64 0] 1 (Nat.le_refl _) (by simp [maxLen]) rfl
  go_enter Tryd.func24, Tryd.ntmps24
  go_wp2
  go_ret
  exact ⟨_, rfl, hO, (Ext.refl _).alloc _⟩

set_option maxRecDepth 100000 in
set_option maxHeartbeats 1600000 in
theorem law32_alive {w : World} (hp : Perms w) : Calls Tryd.prog 29 #[] w fun e w' => e = .returned (.bool true) ∧ Ext w w' := by
  have hF := Ext.refl w
  have hP := hp
  have h_1 := Lib.hid ex32_1; have h_2 := Lib.hid ex32_2; have h_3 := Lib.hid ex32_3; have h_4 := Lib.hid ex32_4; have h_5 := Lib.hid ex32_5; have h_6 := Lib.hid ex32_6; have h_7 := Lib.hid ex32_7
  clear hp
  go_enter Tryd.func29, Tryd.ntmps29
  go_wp2_with fail
  refine (law32_base _).mono ?_
  rintro e w1 ⟨vb1, rfl, ob1, hZ0⟩
  have hE0 : Ext w w1 := Ext.trans (by repeat (first | exact Ext.refl _ | apply Ext.alloc | apply Ext.drew)) hZ0
  replace hP := hP.ext hE0
  have hF0 := Ext.trans (hF) hE0
  have b1 : Its w1 vb1 base32 := Own.sl ob1
  obtain ⟨ab1, cb1, rfl, -⟩ := b1.form
  clear ob1
  go_wp2_with fail
  refine (phases_Reserve (l := base32) (run := []) (hP.ext (by repeat (first | exact Ext.refl _ | apply Ext.alloc | apply Ext.drew))) 1 2 (b1.ext (by repeat (first | exact Ext.refl _ | apply Ext.alloc | apply Ext.drew))) (by (repeat (first | exact Nts.nil _ | exact Nts.litl _ _ _ _ _ (by simp) rfl (by simp [maxLen]) rfl | refine Nts.ext ?_ (Ext.refl _).drew | refine Nts.ext ?_ ((Ext.refl _).alloc _) | refine Nts.ext ?_ (by assumption))))).mono ?_
  rintro e w2 ⟨vsv, rfl, osv, hZ1⟩
  have hE1 : Ext w1 w2 := Ext.trans (by repeat (first | exact Ext.refl _ | apply Ext.alloc | apply Ext.drew)) hZ1
  replace hP := hP.ext hE1
  replace b1 := b1.ext hE1
  have hF1 := Ext.trans (hF0) hE1
  rw [h_1.out] at osv
  rw [h_1.out]
  have sv := OwnI.its osv
  obtain ⟨asv, csv, rfl, -⟩ := sv.form
  clear osv
  go_wp2_with fail
  refine (phases_Many (l := ex32s) (tags := [1, 2, 1]) (run := []) (sv.ext (by repeat (first | exact Ext.refl _ | apply Ext.alloc | apply Ext.drew))) (by (repeat (first | exact Nts.nil _ | exact Nts.litl _ _ _ _ _ (by simp) rfl (by simp [maxLen]) rfl | refine Nts.ext ?_ (Ext.refl _).drew | refine Nts.ext ?_ ((Ext.refl _).alloc _) | refine Nts.ext ?_ (by assumption)))) (by (repeat (first | exact Nts.nil _ | exact Nts.litl _ _ _ _ _ (by simp) rfl (by simp [maxLen]) rfl | refine Nts.ext ?_ (Ext.refl _).drew | refine Nts.ext ?_ ((Ext.refl _).alloc _) | refine Nts.ext ?_ (by assumption))))).mono ?_
  rintro e w3 ⟨vtv, rfl, otv, hZ2⟩
  have hE2 : Ext w2 w3 := Ext.trans (by repeat (first | exact Ext.refl _ | apply Ext.alloc | apply Ext.drew)) hZ2
  replace hP := hP.ext hE2
  replace b1 := b1.ext hE2
  replace sv := sv.ext hE2
  have hF2 := Ext.trans (hF1) hE2
  rw [h_2.out] at otv
  rw [h_2.out]
  have tv := OwnI.its otv
  obtain ⟨atv, ctv, rfl, -⟩ := tv.form
  clear otv
  go_wp2_with fail
  refine (phases_Activate (l := ex32s) (run := []) 2 (tv.ext (by repeat (first | exact Ext.refl _ | apply Ext.alloc | apply Ext.drew))) (by (repeat (first | exact Nts.nil _ | exact Nts.litl _ _ _ _ _ (by simp) rfl (by simp [maxLen]) rfl | refine Nts.ext ?_ (Ext.refl _).drew | refine Nts.ext ?_ ((Ext.refl _).alloc _) | refine Nts.ext ?_ (by assumption))))).mono ?_
  rintro e w4 ⟨va, rfl, oa, hZ3⟩
  have hE3 : Ext w3 w4 := Ext.trans (by repeat (first | exact Ext.refl _ | apply Ext.alloc | apply Ext.drew)) hZ3
  replace hP := hP.ext hE3
  replace b1 := b1.ext hE3
  replace sv := sv.ext hE3
  replace tv := tv.ext hE3
  have hF3 := Ext.trans (hF2) hE3
  rw [h_3.out] at oa
  rw [h_3.out]
  have a := OwnI.its oa
  obtain ⟨aa, ca, rfl, -⟩ := a.form
  clear oa
  go_wp2_with fail
  refine (guard_WriteO (l := ex32s) (run := []) 1 (sv.ext (by repeat (first | exact Ext.refl _ | apply Ext.alloc | apply Ext.drew))) (by (repeat (first | exact Nts.nil _ | exact Nts.litl _ _ _ _ _ (by simp) rfl (by simp [maxLen]) rfl | refine Nts.ext ?_ (Ext.refl _).drew | refine Nts.ext ?_ ((Ext.refl _).alloc _) | refine Nts.ext ?_ (by assumption))))).mono ?_
  rintro e w5 ⟨vb, rfl, ob, hZ4⟩
  have hE4 : Ext w4 w5 := Ext.trans (by repeat (first | exact Ext.refl _ | apply Ext.alloc | apply Ext.drew)) hZ4
  replace hP := hP.ext hE4
  replace b1 := b1.ext hE4
  replace sv := sv.ext hE4
  replace tv := tv.ext hE4
  replace a := a.ext hE4
  have hF4 := Ext.trans (hF3) hE4
  rw [h_4.out] at ob
  rw [h_4.out]
  have b := OwnI.its ob
  obtain ⟨ab, cb, rfl, -⟩ := b.form
  clear ob
  go_wp2_with fail
  refine (law32_is 2 1 sv).mono ?_
  rintro e w6 ⟨rfl, hZ5⟩
  have hE5 : Ext w5 w6 := Ext.trans (by repeat (first | exact Ext.refl _ | apply Ext.alloc | apply Ext.drew)) hZ5
  replace hP := hP.ext hE5
  replace b1 := b1.ext hE5
  replace sv := sv.ext hE5
  replace tv := tv.ext hE5
  replace a := a.ext hE5
  replace b := b.ext hE5
  have hF5 := Ext.trans (hF4) hE5
  rw [h_5.out]
  go_wp2_with fail
  refine (ref28_Same_yes sv tv).mono ?_
  rintro e w7 ⟨rfl, hZ6⟩
  have hE6 : Ext w6 w7 := Ext.trans (by repeat (first | exact Ext.refl _ | apply Ext.alloc | apply Ext.drew)) hZ6
  replace hP := hP.ext hE6
  replace b1 := b1.ext hE6
  replace sv := sv.ext hE6
  replace tv := tv.ext hE6
  replace a := a.ext hE6
  replace b := b.ext hE6
  have hF6 := Ext.trans (hF5) hE6
  go_wp2_with fail
  refine (law32_base _).mono ?_
  rintro e w8 ⟨vb2, rfl, ob2, hZ7⟩
  have hE7 : Ext w7 w8 := Ext.trans (by repeat (first | exact Ext.refl _ | apply Ext.alloc | apply Ext.drew)) hZ7
  replace hP := hP.ext hE7
  replace b1 := b1.ext hE7
  replace sv := sv.ext hE7
  replace tv := tv.ext hE7
  replace a := a.ext hE7
  replace b := b.ext hE7
  have hF7 := Ext.trans (hF6) hE7
  have b2 : Its w8 vb2 base32 := Own.sl ob2
  obtain ⟨ab2, cb2, rfl, -⟩ := b2.form
  clear ob2
  have hc0 := b2.cell (i := 0) (x := ⟨1, 1, 0⟩) rfl
  obtain ⟨bb, bo, rfl, -, k0, k1, k2⟩ := hc0
  simp only [Nat.zero_mul, Nat.add_zero] at k0 k1 k2
  go_wp2_with fail
  refine (ref28_Same_yes (l := ex32a) (a.ext (by repeat (first | exact Ext.refl _ | apply Ext.alloc | apply Ext.drew))) (by (repeat (first | exact Its.nil _ | exact Its.lit _ _ _ _ _ (by simp) rfl (by simp [maxLen]) rfl | refine Its.ext ?_ (Ext.refl _).drew | refine Its.ext ?_ ((Ext.refl _).alloc _) | refine Its.ext ?_ (by assumption))))).mono ?_
  rintro e w9 ⟨rfl, hZ8⟩
  have hE8 : Ext w8 w9 := Ext.trans (by repeat (first | exact Ext.refl _ | apply Ext.alloc | apply Ext.drew)) hZ8
  replace hP := hP.ext hE8
  replace b1 := b1.ext hE8
  replace sv := sv.ext hE8
  replace tv := tv.ext hE8
  replace a := a.ext hE8
  replace b := b.ext hE8
  replace b2 := b2.ext hE8
  have hF8 := Ext.trans (hF7) hE8
  go_wp2_with fail
  refine (law32_is 2 2 a).mono ?_
  rintro e w10 ⟨rfl, hZ9⟩
  have hE9 : Ext w9 w10 := Ext.trans (by repeat (first | exact Ext.refl _ | apply Ext.alloc | apply Ext.drew)) hZ9
  replace hP := hP.ext hE9
  replace b1 := b1.ext hE9
  replace sv := sv.ext hE9
  replace tv := tv.ext hE9
  replace a := a.ext hE9
  replace b := b.ext hE9
  replace b2 := b2.ext hE9
  have hF9 := Ext.trans (hF8) hE9
  rw [h_6.out]
  go_wp2_with fail
  refine (law32_is 2 0 b).mono ?_
  rintro e w11 ⟨rfl, hZ10⟩
  have hE10 : Ext w10 w11 := Ext.trans (by repeat (first | exact Ext.refl _ | apply Ext.alloc | apply Ext.drew)) hZ10
  replace hP := hP.ext hE10
  replace b1 := b1.ext hE10
  replace sv := sv.ext hE10
  replace tv := tv.ext hE10
  replace a := a.ext hE10
  replace b := b.ext hE10
  replace b2 := b2.ext hE10
  have hF10 := Ext.trans (hF9) hE10
  rw [h_7.out]
  go_wp2
  go_ret
  exact ⟨rfl, hF10⟩

end Go.Proofs.YtkbocenpkdaogaaDoor
