/- The statement PhasesReads: for every stack, list of tags and list of calls the call returns true. No condition. -/
import Derived.Test.YtebocgnbcokogaaPhsA
import Derived.Test.YtebocgnbcokogaaClose
import Derived.Test.YtebocgnbcokogaaReadI
namespace Go.Proofs.Ytebocgnbcokogaa
set_option maxRecDepth 100000
open Go.ChangeShapes Go.WideShapes Go.ChangeAt Go.RowKit

set_option maxRecDepth 100000 in
set_option maxHeartbeats 3200000 in
theorem phasesReads_walk {l : List Item} {tags run : List Int} {v g r : Value} {w : World} (hl : Its w v l) (ht : Nts w g tags) (hr : Nts w r run) :
    Calls Try.prog 11 #[v, g, r] w fun e w' => e = .returned (.bool true) ∧ Ext w w' := by
  have hF0 := Ext.refl w
  have hL := hl; have hR := hr; have hT := ht
  obtain ⟨a, cp, rfl, hlc, hcm, -⟩ := hl.form
  obtain ⟨a2, cp2, rfl, hlc2, hcm2, -⟩ := hr.form
  obtain ⟨a3, cp3, rfl, hlc3, hcm3, -⟩ := ht.form
  clear hl hr ht
  by_cases hb : 610 < l.length
  · have hd : Hid (decide (610 < l.length) = true) := Hid.mk (decide_eq_true hb)
    go_enter Try.func11, Try.ntmps11
    go_wp2_with fail
    refine (ref28_Great hL).mono ?_
    rintro e w1 ⟨rfl, rfl⟩
    rw [hd.out]
    go_wp2
    go_ret
    exact ⟨rfl, hF0⟩
  · have hd : Hid (decide (610 < l.length) = false) := Hid.mk (decide_eq_false hb)
    have hs : l.length ≤ 1000000 := by omega
    clear hb
    have hcase : (decide ((30 : Int) < (tags.length : Int)) = true ∧ decide ((tags.length : Int) < 599) = true) ∨ (((decide ((30 : Int) < (tags.length : Int)) = true ∧ decide ((tags.length : Int) < 599) = false) ∨ decide ((30 : Int) < (tags.length : Int)) = false) ∧
        (decide ((610 : Int) < (tags.length : Int)) = true ∨ decide ((610 : Int) < (tags.length : Int)) = false ∧ (decide ((50 : Int) < (run.length : Int)) = true ∨ decide ((50 : Int) < (run.length : Int)) = false))) := by
      simp only [decide_eq_true_eq, decide_eq_false_iff_not]
      omega
    rcases hcase with ⟨g1, g2⟩ | ⟨⟨g1, g2⟩ | g1, g3 | ⟨g3, g4 | g4⟩⟩
    ·
      go_enter Try.func11, Try.ntmps11
      go_wp2_with fail
      refine (ref28_Great hL).mono ?_
      rintro e w1 ⟨rfl, rfl⟩
      rw [hd.out]
      go_wp2
      go_ret
      exact ⟨rfl, hF0⟩
    ·
      go_enter Try.func11, Try.ntmps11
      go_wp2_with fail
      refine (ref28_Great hL).mono ?_
      rintro e w1 ⟨rfl, rfl⟩
      rw [hd.out]
      go_wp2
      go_ret
      exact ⟨rfl, hF0⟩
    ·
      go_enter Try.func11, Try.ntmps11
      go_wp2_with fail
      refine (ref28_Great hL).mono ?_
      rintro e w1 ⟨rfl, rfl⟩
      rw [hd.out]
      go_wp2
      go_ret
      exact ⟨rfl, hF0⟩
    ·
      obtain ⟨⟨A1, A2, A3, A4⟩, hA⟩ : ∃ x, manyR l tags run = x := ⟨_, rfl⟩
      replace hA := Lib.hid hA
      go_enter Try.func11, Try.ntmps11
      go_wp2_with fail
      refine (ref28_Great hL).mono ?_
      rintro e w1 ⟨rfl, rfl⟩
      rw [hd.out]
      go_wp2_with fail
      refine (ref28_Twin hL hs).mono ?_
      rintro e w2 ⟨vh, rfl, oh, hE2⟩
      have hF2 := hF0.trans hE2
      replace hL := hL.ext hE2
      replace hR := hR.ext hE2
      replace hT := hT.ext hE2
      have hH : Its w2 vh l := Own.sl oh
      clear oh
      obtain ⟨ah, ch, rfl, -⟩ := hH.form
      go_wp2_with fail
      refine (phases_Many hL hT hR).mono ?_
      rintro e w3 ⟨va, rfl, oa, hE3⟩
      have hF3 := hF2.trans hE3
      replace hL := hL.ext hE3
      replace hR := hR.ext hE3
      replace hT := hT.ext hE3
      replace hH := hH.ext hE3
      have ha : Its w3 va A1 := by rw [hA.out] at oa; exact oa.its
      rw [hA.out]
      clear oa
      obtain ⟨aa, ca, rfl, -⟩ := ha.form
      go_wp2_with fail
      refine (ref32_Many hH hT hR).mono ?_
      rintro e w4 ⟨vb, rfl, ob, hE4⟩
      have hF4 := hF3.trans hE4
      replace hL := hL.ext hE4
      replace hR := hR.ext hE4
      replace hT := hT.ext hE4
      replace hH := hH.ext hE4
      replace ha := ha.ext hE4
      have hb : Its w4 vb A1 := by rw [hA.out] at ob; exact ob.its
      rw [hA.out]
      clear ob
      obtain ⟨ab, cb, rfl, -⟩ := hb.form
      go_wp2_with fail
      refine (ref28_Same_yes ha hb).mono ?_
      rintro e w5 ⟨rfl, hE5⟩
      have hF5 := hF4.trans hE5
      replace hL := hL.ext hE5
      replace hR := hR.ext hE5
      replace hT := hT.ext hE5
      replace hH := hH.ext hE5
      replace ha := ha.ext hE5
      replace hb := hb.ext hE5
      go_wp2_with fail
      refine (ref28_Same_yes hL hH).mono ?_
      rintro e w6 ⟨rfl, hE6⟩
      have hF6 := hF5.trans hE6
      replace hL := hL.ext hE6
      replace hR := hR.ext hE6
      replace hT := hT.ext hE6
      replace hH := hH.ext hE6
      replace ha := ha.ext hE6
      replace hb := hb.ext hE6
      go_wp2
      go_ret
      exact ⟨rfl, hF6⟩
    ·
      go_enter Try.func11, Try.ntmps11
      go_wp2_with fail
      refine (ref28_Great hL).mono ?_
      rintro e w1 ⟨rfl, rfl⟩
      rw [hd.out]
      go_wp2
      go_ret
      exact ⟨rfl, hF0⟩
    ·
      go_enter Try.func11, Try.ntmps11
      go_wp2_with fail
      refine (ref28_Great hL).mono ?_
      rintro e w1 ⟨rfl, rfl⟩
      rw [hd.out]
      go_wp2
      go_ret
      exact ⟨rfl, hF0⟩
    ·
      obtain ⟨⟨A1, A2, A3, A4⟩, hA⟩ : ∃ x, manyR l tags run = x := ⟨_, rfl⟩
      replace hA := Lib.hid hA
      go_enter Try.func11, Try.ntmps11
      go_wp2_with fail
      refine (ref28_Great hL).mono ?_
      rintro e w1 ⟨rfl, rfl⟩
      rw [hd.out]
      go_wp2_with fail
      refine (ref28_Twin hL hs).mono ?_
      rintro e w2 ⟨vh, rfl, oh, hE2⟩
      have hF2 := hF0.trans hE2
      replace hL := hL.ext hE2
      replace hR := hR.ext hE2
      replace hT := hT.ext hE2
      have hH : Its w2 vh l := Own.sl oh
      clear oh
      obtain ⟨ah, ch, rfl, -⟩ := hH.form
      go_wp2_with fail
      refine (phases_Many hL hT hR).mono ?_
      rintro e w3 ⟨va, rfl, oa, hE3⟩
      have hF3 := hF2.trans hE3
      replace hL := hL.ext hE3
      replace hR := hR.ext hE3
      replace hT := hT.ext hE3
      replace hH := hH.ext hE3
      have ha : Its w3 va A1 := by rw [hA.out] at oa; exact oa.its
      rw [hA.out]
      clear oa
      obtain ⟨aa, ca, rfl, -⟩ := ha.form
      go_wp2_with fail
      refine (ref32_Many hH hT hR).mono ?_
      rintro e w4 ⟨vb, rfl, ob, hE4⟩
      have hF4 := hF3.trans hE4
      replace hL := hL.ext hE4
      replace hR := hR.ext hE4
      replace hT := hT.ext hE4
      replace hH := hH.ext hE4
      replace ha := ha.ext hE4
      have hb : Its w4 vb A1 := by rw [hA.out] at ob; exact ob.its
      rw [hA.out]
      clear ob
      obtain ⟨ab, cb, rfl, -⟩ := hb.form
      go_wp2_with fail
      refine (ref28_Same_yes ha hb).mono ?_
      rintro e w5 ⟨rfl, hE5⟩
      have hF5 := hF4.trans hE5
      replace hL := hL.ext hE5
      replace hR := hR.ext hE5
      replace hT := hT.ext hE5
      replace hH := hH.ext hE5
      replace ha := ha.ext hE5
      replace hb := hb.ext hE5
      go_wp2_with fail
      refine (ref28_Same_yes hL hH).mono ?_
      rintro e w6 ⟨rfl, hE6⟩
      have hF6 := hF5.trans hE6
      replace hL := hL.ext hE6
      replace hR := hR.ext hE6
      replace hT := hT.ext hE6
      replace hH := hH.ext hE6
      replace ha := ha.ext hE6
      replace hb := hb.ext hE6
      go_wp2
      go_ret
      exact ⟨rfl, hF6⟩
set_option maxRecDepth 100000 in
theorem phasesReads_lifted (os : Os) (started : os.Started) (H : Type) (enc : TypeId × Value → H) :
    ReturnsInHanded {} Try.checked os 11 .any (Rows.phasesReadsSpec.pre6 enc Try.prog Try.f11 Rows.phasesReadsRow.domain false) (Rows.phasesReadsSpec.post enc Try.prog Try.f11 false true false false) := by
  refine returnsInHanded_of_change (C := Try.checked) Tryown started (by kernel_rfl) Try.func11
    (ChangeSpec.witness6 (enc := enc) (C := Try.checked) false ⟨#[], #[.slice none 0 0, .slice none 0 0, .slice none 0 0], []⟩ 8 (by kernel_rfl) (by kernel_rfl) (by kernel_rfl) (by kernel_rfl)) ?_
  intro W base args ds gs before hval0 hW _ _
  have hval : ∀ (j : Nat) t v, Try.f11.params[j]? = some t → args[j]? = some v → Value.okWide Try.prog W .any base t v := hval0
  have hW' := hW
  obtain ⟨p, q, hA0, hV, rfl, hfz, hnd⟩ := hW
  have hA : DataW.TrodAll enc Try.prog W 0 (fun _ => true) true Try.f11.params.toList args.toList ds p := hA0
  rw [Try.params11] at hA hval
  obtain ⟨v0, vs0, d0, ds0, p0, q0, hargs, rfl, rfl, h0, r0⟩ := trodAll_cons hA
  obtain ⟨v1, vs1, d1, ds1, p1, q1, rfl, rfl, rfl, h1, r1⟩ := trodAll_cons r0
  obtain ⟨v2, vs2, d2, ds2, p2, q2, rfl, rfl, rfl, h2, r2⟩ := trodAll_cons r1
  obtain ⟨rfl, rfl, rfl⟩ := trodAll_nil r2
  obtain rfl : args = #[v0, v1, v2] := by cases args; simp_all
  obtain ⟨x0, k0, wf0⟩ := open_items Try.underlying36 (hval 0 36 v0 rfl rfl) h0
  obtain ⟨x1, k1, wf1⟩ := open_ints' Try.underlying52 (hval 1 52 v1 rfl rfl) h1
  obtain ⟨x2, k2, wf2⟩ := open_ints' Try.underlying52 (hval 2 52 v2 rfl rfl) h2
  refine (phasesReads_walk k0 k1 k2).mono fun e W' ⟨he, hb⟩ => ?_
  subst he
  exact ⟨_, rfl, post_law TrylaidOut (tb := 4) rfl Try.underlying4 (by kernel_rfl) rfl (fun ds hd => match ds, hd with | [a0, a1, a2], _ => rfl) hW' hb⟩

theorem phasesReads_holds : Rows.PhasesReadsSaid :=
  OpenClaim.holds_of_wide 11 Try.f11 rfl rfl rfl rfl rfl rfl rfl ⟨rfl, rfl, rfl, rfl, rfl⟩ rfl rfl rfl rfl rfl (by kernel_rfl) Try.func11 (by kernel_rfl)
    (of_decide_eq_true (by kernel_rfl)) (by unfold Func.isWrapper; first | (rw [if_pos (by decide +kernel)]; kernel_rfl) | (rw [if_neg (by decide +kernel)]; exact ⟨rfl, rfl⟩))
    (fun os started H enc _ => phasesReads_lifted os started H enc)

end Go.Proofs.Ytebocgnbcokogaa
