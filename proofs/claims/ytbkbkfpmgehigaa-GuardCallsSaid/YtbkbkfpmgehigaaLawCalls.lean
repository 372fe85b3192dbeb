/- The statement GuardCalls: for every list of calls, number and items the call returns true. No condition. -/
import Derived.Test.YtbkbkfpmgehigaaGrdE
import Derived.Test.YtbkbkfpmgehigaaClose
import Derived.Test.YtbkbkfpmgehigaaReadI
namespace Go.Proofs.Ytbkbkfpmgehigaa
open Go.ChangeShapes Go.WideShapes Go.ChangeAt Go.RowKit

set_option maxRecDepth 100000 in
set_option maxHeartbeats 3200000 in
theorem guardCalls_walk {run : List Int} {l : List Item} {v u : Value} {w : World} (c : Int) (hr : Nts w v run) (hl : Its w u l) :
    Calls Try.prog 3 #[v, .int .i64 c, u] w fun e w' => e = .returned (.bool true) ∧ Ext w w' := by
  have hF0 := Ext.refl w
  have hR := hr
  have hI := hl
  obtain ⟨a, cp, rfl, hlc, hcm, -⟩ := hr.form
  obtain ⟨a2, cp2, rfl, hlc2, hcm2, -⟩ := hl.form
  unfold maxLen at hcm hcm2
  clear hr hl
  by_cases h1 : 50 < run.length
  · have q1 : decide ((50 : Int) < (run.length : Int)) = true := decide_eq_true (by omega)
    go_enter Try.func3, Try.ntmps3
    go_wp2
    go_ret
    exact ⟨rfl, Ext.refl _⟩
  · have q1 : decide ((50 : Int) < (run.length : Int)) = false := decide_eq_false (by omega)
    by_cases h2 : 50 < l.length
    · have q2 : decide ((50 : Int) < (l.length : Int)) = true := decide_eq_true (by omega)
      go_enter Try.func3, Try.ntmps3
      go_wp2
      go_ret
      exact ⟨rfl, Ext.refl _⟩
    · have q2 : decide ((50 : Int) < (l.length : Int)) = false := decide_eq_false (by omega)
      obtain ⟨⟨EL, ee⟩, hEn⟩ : ∃ A, enterR run c = A := ⟨_, rfl⟩
      obtain ⟨⟨LL, le⟩, hLe⟩ : ∃ A, leaveR run = A := ⟨_, rfl⟩
      obtain ⟨⟨hi, he⟩, hHe⟩ : ∃ A, heldR l run = A := ⟨_, rfl⟩
      obtain ⟨ce, hCe⟩ : ∃ A, runErr run = A := ⟨_, rfl⟩
      have hEn' := Lib.hid hEn; have hLe' := Lib.hid hLe; have hHe' := Lib.hid hHe; have hCe' := Lib.hid hCe
      clear hEn hLe hHe hCe
      obtain ⟨i, z, hi', hz, hi3, hz3, hby⟩ := Int.infoE
      have hz := Lib.hid hz; have hi3 := Lib.hid hi3; have hz3 := Lib.hid hz3; have hby := Lib.hid hby; have hi' := Lib.hid hi'
      have hE := (Ext.refl w).alloc (.cells #[] 3)
      have hO := Own.made w w.heap.size 3 1 (Nat.le_refl _)
      have hx := Lib.hid (hR.ext hE)
      go_enter Try.func3, Try.ntmps3
      go_wp2_with (at_builtin; refine Hid.out ?_)
      refine Hid.mk ?_
      refine wpList_append_any rfl _ _ 22 22 rfl rfl rfl Try.underlying22 Try.underlying22 hi'.out hz.out hi3.out hz3.out hO hx.out (Nts.one _) (by simp [maxLen]; omega) (by rw [hby.out]; omega) hE.size ?_
      intro v0 w0 hO0 hK0 _ _
      simp only [Nat.zero_add, List.nil_append] at hO0
      have hE0 : Ext w w0 := Below.trans hE hK0.below
      have hH : Nts w0 v0 run := hO0.sl
      obtain ⟨a3, cp3, rfl, -⟩ := hH.form
      replace hR := hR.ext hE0
      replace hI := hI.ext hE0
      clear hO0 hK0 hE hO hF0
      go_wp2_with fail
      refine (guard_Enter c hR).mono ?_
      rintro e w1 ⟨va, rfl, hva, hE1⟩
      have hF1 := hE0.trans hE1
      replace hR := hR.ext hE1
      replace hI := hI.ext hE1
      replace hH := hH.ext hE1
      rw [hEn'.out] at hva
      rw [hEn'.out]
      obtain ⟨b1, d1, rfl, -⟩ := hva.form
      go_wp2_with fail
      refine (ref31_Enter c hH).mono ?_
      rintro e w2 ⟨vb, rfl, hvb, hE2⟩
      have hF2 := hF1.trans hE2
      replace hR := hR.ext hE2
      replace hI := hI.ext hE2
      replace hH := hH.ext hE2
      replace hva := hva.ext hE2
      rw [hEn'.out] at hvb
      rw [hEn'.out]
      obtain ⟨b2, d2, rfl, -⟩ := hvb.form
      go_wp2_with fail
      refine (guard_Leave hR).mono ?_
      rintro e w3 ⟨vc, rfl, hvc, hE3⟩
      have hF3 := hF2.trans hE3
      replace hR := hR.ext hE3
      replace hI := hI.ext hE3
      replace hH := hH.ext hE3
      replace hva := hva.ext hE3
      replace hvb := hvb.ext hE3
      rw [hLe'.out] at hvc
      rw [hLe'.out]
      obtain ⟨b3, d3, rfl, -⟩ := hvc.form
      go_wp2_with fail
      refine (ref31_Leave hH).mono ?_
      rintro e w4 ⟨vd, rfl, hvd, hE4⟩
      have hF4 := hF3.trans hE4
      replace hR := hR.ext hE4
      replace hI := hI.ext hE4
      replace hH := hH.ext hE4
      replace hva := hva.ext hE4
      replace hvb := hvb.ext hE4
      replace hvc := hvc.ext hE4
      rw [hLe'.out] at hvd
      rw [hLe'.out]
      obtain ⟨b4, d4, rfl, -⟩ := hvd.form
      go_wp2_with fail
      refine (guard_Held hI hR).mono ?_
      rintro e w5 ⟨rfl, hE5⟩
      have hF5 := hF4.trans hE5
      replace hR := hR.ext hE5
      replace hI := hI.ext hE5
      replace hH := hH.ext hE5
      replace hva := hva.ext hE5
      replace hvb := hvb.ext hE5
      replace hvc := hvc.ext hE5
      replace hvd := hvd.ext hE5
      rw [hHe'.out]
      go_wp2_with fail
      refine (ref31_Held hI hH).mono ?_
      rintro e w6 ⟨rfl, hE6⟩
      have hF6 := hF5.trans hE6
      replace hR := hR.ext hE6
      replace hI := hI.ext hE6
      replace hH := hH.ext hE6
      replace hva := hva.ext hE6
      replace hvb := hvb.ext hE6
      replace hvc := hvc.ext hE6
      replace hvd := hvd.ext hE6
      rw [hHe'.out]
      go_wp2_with fail
      refine (ref31_SameInts hva hvb).mono ?_
      rintro e w7 ⟨rfl, hE7⟩
      have hF7 := hF6.trans hE7
      replace hR := hR.ext hE7
      replace hI := hI.ext hE7
      replace hH := hH.ext hE7
      replace hva := hva.ext hE7
      replace hvb := hvb.ext hE7
      replace hvc := hvc.ext hE7
      replace hvd := hvd.ext hE7
      go_wp2_with fail
      refine (ref31_SameInts hvc hvd).mono ?_
      rintro e w8 ⟨rfl, hE8⟩
      have hF8 := hF7.trans hE8
      replace hR := hR.ext hE8
      replace hI := hI.ext hE8
      replace hH := hH.ext hE8
      replace hva := hva.ext hE8
      replace hvb := hvb.ext hE8
      replace hvc := hvc.ext hE8
      replace hvd := hvd.ext hE8
      go_wp2_with fail
      refine (guard_Check hR).mono ?_
      rintro e wx ⟨rfl, rfl⟩
      rw [hCe'.out]
      go_wp2_with fail
      refine (ref31_Check hH).mono ?_
      rintro e wx ⟨rfl, rfl⟩
      rw [hCe'.out]
      go_wp2_with fail
      refine (ref31_SameInts hR hH).mono ?_
      rintro e w9 ⟨rfl, hE9⟩
      have hF9 := hF8.trans hE9
      replace hR := hR.ext hE9
      replace hI := hI.ext hE9
      replace hH := hH.ext hE9
      replace hva := hva.ext hE9
      replace hvb := hvb.ext hE9
      replace hvc := hvc.ext hE9
      replace hvd := hvd.ext hE9
      go_wp2
      go_ret
      exact ⟨rfl, hF9⟩
set_option maxRecDepth 100000 in
theorem guardCalls_lifted (os : Os) (started : os.Started) (H : Type) (enc : TypeId × Value → H) :
    ReturnsInHanded {} Try.checked os 3 .any (Rows.guardCallsSpec.pre6 enc Try.prog Try.f3 Rows.guardCallsRow.domain false) (Rows.guardCallsSpec.post enc Try.prog Try.f3 false true false false) := by
  refine returnsInHanded_of_change (C := Try.checked) Tryown started (by kernel_rfl) Try.func3
    (ChangeSpec.witness6 (enc := enc) (C := Try.checked) false ⟨#[], #[.slice none 0 0, .int .i64 0, .slice none 0 0], []⟩ 8 (by kernel_rfl) (by kernel_rfl) (by kernel_rfl) (by kernel_rfl)) ?_
  intro W base args ds gs before hval0 hW _ _
  have hval : ∀ (j : Nat) t v, Try.f3.params[j]? = some t → args[j]? = some v → Value.okWide Try.prog W .any base t v := hval0
  have hW' := hW
  obtain ⟨p, q, hA0, hV, rfl, hfz, hnd⟩ := hW
  have hA : DataW.TrodAll enc Try.prog W 0 (fun _ => true) true Try.f3.params.toList args.toList ds p := hA0
  rw [Try.params3] at hA hval
  obtain ⟨v0, vs0, d0, ds0, p0, q0, hargs, rfl, rfl, h0, r0⟩ := trodAll_cons hA
  obtain ⟨v1, vs1, d1, ds1, p1, q1, rfl, rfl, rfl, h1, r1⟩ := trodAll_cons r0
  obtain ⟨v2, vs2, d2, ds2, p2, q2, rfl, rfl, rfl, h2, r2⟩ := trodAll_cons r1
  obtain ⟨rfl, rfl, rfl⟩ := trodAll_nil r2
  obtain rfl : args = #[v0, v1, v2] := by cases args; simp_all
  obtain ⟨x0, k0, wf0⟩ := open_ints' Try.underlying22 (hval 0 22 v0 rfl rfl) h0
  obtain ⟨x1, rfl, rfl, rfl, wf1⟩ := open_int Try.underlying3 (hval 1 3 v1 rfl rfl) h1
  obtain ⟨x2, k2, wf2⟩ := open_items Try.underlying23 (hval 2 23 v2 rfl rfl) h2
  refine (guardCalls_walk x1 k0 k2).mono fun e W' ⟨he, hb⟩ => ?_
  subst he
  exact ⟨_, rfl, post_law TrylaidOut (tb := 4) rfl Try.underlying4 (by kernel_rfl) rfl (fun ds hd => match ds, hd with | [a0, a1, a2], _ => rfl) hW' hb⟩

theorem guardCalls_holds : Rows.GuardCallsSaid :=
  OpenClaim.holds_of_wide 3 Try.f3 rfl rfl rfl rfl rfl rfl rfl ⟨rfl, rfl, rfl, rfl, rfl⟩ rfl rfl rfl rfl rfl (by kernel_rfl) Try.func3 (by kernel_rfl)
    (of_decide_eq_true (by kernel_rfl)) (by unfold Func.isWrapper; first | (rw [if_pos (by decide +kernel)]; kernel_rfl) | (rw [if_neg (by decide +kernel)]; exact ⟨rfl, rfl⟩))
    (fun os started H enc _ => guardCalls_lifted os started H enc)

end Go.Proofs.Ytbkbkfpmgehigaa
