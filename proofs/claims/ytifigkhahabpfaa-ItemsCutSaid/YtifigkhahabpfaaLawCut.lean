/- The statement ItemsCut: for every stack and index the call returns true. No condition. -/
import Derived.Test.YtifigkhahabpfaaLaw28A
import Derived.Test.YtifigkhahabpfaaClose
namespace Go.Proofs.Ytifigkhahabpfaa
open Go.ChangeShapes Go.WideShapes Go.ChangeAt Go.RowKit

set_option maxHeartbeats 3200000 in
theorem itemsCut_walk {l : List Item} {v : Value} {w : World} (at' : Int) (hl : Its w v l) :
    Calls Try.prog 7 #[v, .int .i64 at'] w fun e w' => e = .returned (.bool true) ∧ Ext w w' := by
  have hF0 := Ext.refl w
  have hL := hl
  obtain ⟨a, cp, rfl, hlc, hcm, -⟩ := hl.form
  unfold maxLen at hcm
  clear hl
  by_cases hg : 610 < l.length
  · go_enter Try.func7, Try.ntmps7
    go_wp2_with fail
    refine (law28_alive _).mono ?_
    rintro e w1 ⟨rfl, hE1⟩
    have hF1 := hF0.trans hE1
    replace hL := hL.ext hE1
    go_wp2_with fail
    refine (ref28_Great hL).mono ?_
    rintro e w2 ⟨rfl, rfl⟩
    go_wp2
    go_ret
    exact ⟨rfl, hF1⟩
  by_cases hk : okS l = true
  · have h0 : Hid (chk l = 0) := Hid.mk (by simp [chk, hk])
    have hl6 : l.length ≤ 600 := by simp [okS] at hk; omega
    by_cases hr : 0 ≤ at' ∧ at' < l.length
    · obtain ⟨k, rfl⟩ := Int.eq_ofNat_of_zero_le hr.1
      have hkl : k < l.length := by omega
      have he : Hid (atErr l (k : Int) = 0) := Hid.mk (by simp [atErr, hk, hkl])
      obtain ⟨m, hm⟩ : ∃ m, belowOf l (k : Int) = m := ⟨_, rfl⟩
      obtain ⟨n, hn⟩ : ∃ n, aboveOf l (k : Int) = n := ⟨_, rfl⟩
      have hmn : Hid (m ++ n = l) := Hid.mk (by rw [← hm, ← hn]; unfold belowOf aboveOf; rw [he.out]; simp)
      have hml : m.length = k + 1 := by rw [← hm]; unfold belowOf; rw [he.out]; simp; omega
      have hnl : n.length ≤ 600 := by rw [← hmn.out] at hl6; simp at hl6; omega
      have hb : ((m.length : Int) == (k : Int) + 1) = true := by simp; omega
      have hid_hm := Lib.hid hm; clear hm; have hm := hid_hm; clear hid_hm; have hid_hn := Lib.hid hn; clear hn; have hn := hid_hn; clear hid_hn
      have d0 : decide ((k : Int) < 0) = false := decide_eq_false (by omega)
      have d1 : decide ((l.length : Int) ≤ (k : Int)) = false := decide_eq_false (by omega)
      have hml' : m.length ≤ 600 := by omega
      clear hr hk hml hg
      obtain ⟨i, z, hi, hz, hi3, hz3, hby⟩ := Item.infoE
      have hid_hi := Lib.hid hi; clear hi; have hi := hid_hi; clear hid_hi; have hid_hz := Lib.hid hz; clear hz; have hz := hid_hz; clear hid_hz; have hid_hi3 := Lib.hid hi3; clear hi3; have hi3 := hid_hi3; clear hid_hi3; have hid_hz3 := Lib.hid hz3; clear hz3; have hz3 := hid_hz3; clear hid_hz3; have hid_hby := Lib.hid hby; clear hby; have hby := hid_hby; clear hid_hby
      go_enter Try.func7, Try.ntmps7
      go_wp2_with fail
      refine (law28_alive _).mono ?_
      rintro e w1 ⟨rfl, hE1⟩
      have hF1 := hF0.trans hE1
      replace hL := hL.ext hE1
      go_wp2_with fail
      refine (ref28_Great hL).mono ?_
      rintro e w2 ⟨rfl, rfl⟩
      go_wp2_with fail
      refine (ref28_Check hL).mono ?_
      rintro e w3 ⟨rfl, hE3⟩
      have hF3 := hF1.trans hE3
      replace hL := hL.ext hE3
      rw [h0.out]
      go_wp2_with fail
      refine (items_Below (k : Int) hL).mono ?_
      rintro e w4 ⟨va, rfl, hva, hE4⟩
      have hF4 := hF3.trans hE4
      replace hL := hL.ext hE4
      rw [hm.out] at hva
      rw [he.out]
      obtain ⟨aa, ca, rfl, hc1, hc2, -⟩ := hva.sl.slice_form
      go_wp2_with fail
      refine (items_Above (k : Int) hL).mono ?_
      rintro e w5 ⟨vb, rfl, hvb, hE5⟩
      have hF5 := hF4.trans hE5
      replace hL := hL.ext hE5
      replace hva := hva.ext hE5
      rw [hn.out] at hvb
      rw [he.out]
      have hO := Own.made w5 w5.heap.size 31 3 (Nat.le_refl _)
      have hEa := (Ext.refl w5).alloc (.cells #[] 31)
      go_wp2_with (at_builtin; refine Hid.out ?_)
      refine Hid.mk ?_
      refine wpList_append_want rfl _ _ 22 23 rfl rfl rfl Try.underlying22 Try.underlying23 hi.out hz.out hi3.out hz3.out hO (hva.sl.ext hEa) (Item.one m) (by simp [maxLen]; omega) (by rw [hby.out]; omega) hEa.size ?_
      intro v6 w6 hO6 hK6 _ _
      have hE6 : Ext w5 w6 := Below.trans hEa hK6.below
      go_wp2_with (at_builtin; refine Hid.out ?_)
      refine Hid.mk ?_
      refine wpList_append_want rfl _ _ 22 22 rfl rfl rfl Try.underlying22 Try.underlying22 hi.out hz.out hi3.out hz3.out hO6 (hvb.sl.ext hE6) (Item.one n) (by simp [maxLen]; omega) (by rw [hby.out]; omega) hE6.size ?_
      intro v7 w7 hO7 hK7 _ _
      have hE7 : Ext w5 w7 := Below.trans hE6 hK7.below
      have hI : Its w7 v7 (m ++ n) := by
        unfold Its
        have := hO7.sl
        rw [List.length_append, List.flatMap_append]
        simpa using this
      rw [hmn.out] at hI
      go_wp2_with fail
      refine (ref28_Same hI (hL.ext hE7)).mono ?_
      rintro e w8 ⟨rfl, hE8⟩
      go_wp2
      go_ret
      exact ⟨rfl, (hF5.trans hE7).trans hE8⟩
    · have he : Hid (atErr l at' = 2) := Hid.mk (by simp [atErr, hk, hr])
      have hm : Hid (belowOf l at' = []) := Hid.mk (by unfold belowOf; rw [he.out]; simp)
      have hn : Hid (aboveOf l at' = []) := Hid.mk (by unfold aboveOf; rw [he.out]; simp)
      have hr' : at' < 0 ∨ (0 ≤ at' ∧ (l.length : Int) ≤ at') := by omega
      clear hr hk hg
      rcases hr' with hr' | ⟨hr1, hr2⟩
      all_goals
        go_enter Try.func7, Try.ntmps7
        go_wp2_with fail
        refine (law28_alive _).mono ?_
        rintro e w1 ⟨rfl, hE1⟩
        have hF1 := hF0.trans hE1
        replace hL := hL.ext hE1
        go_wp2_with fail
        refine (ref28_Great hL).mono ?_
        rintro e w2 ⟨rfl, rfl⟩
        go_wp2_with fail
        refine (ref28_Check hL).mono ?_
        rintro e w3 ⟨rfl, hE3⟩
        have hF3 := hF1.trans hE3
        replace hL := hL.ext hE3
        rw [h0.out]
        go_wp2_with fail
        refine (items_Below at' hL).mono ?_
        rintro e w4 ⟨va, rfl, hva, hE4⟩
        have hF4 := hF3.trans hE4
        replace hL := hL.ext hE4
        rw [hm.out] at hva
        rw [he.out]
        obtain ⟨aa, ca, rfl, -⟩ := hva.sl.slice_form
        go_wp2_with fail
        refine (items_Above at' hL).mono ?_
        rintro e w5 ⟨vb, rfl, hvb, hE5⟩
        have hF5 := hF4.trans hE5
        replace hL := hL.ext hE5
        rw [hn.out] at hvb
        rw [he.out]
        obtain ⟨ab, cb, rfl, -⟩ := hvb.sl.slice_form
        go_wp2
        go_ret
        exact ⟨rfl, hF5⟩
  · have h8 : Hid (chk l = 8) := Hid.mk (by simp [chk, hk])
    go_enter Try.func7, Try.ntmps7
    go_wp2_with fail
    refine (law28_alive _).mono ?_
    rintro e w1 ⟨rfl, hE1⟩
    have hF1 := hF0.trans hE1
    replace hL := hL.ext hE1
    go_wp2_with fail
    refine (ref28_Great hL).mono ?_
    rintro e w2 ⟨rfl, rfl⟩
    go_wp2_with fail
    refine (ref28_Check hL).mono ?_
    rintro e w3 ⟨rfl, hE3⟩
    have hF3 := hF1.trans hE3
    replace hL := hL.ext hE3
    rw [h8.out]
    go_wp2
    go_ret
    exact ⟨rfl, hF3⟩

set_option maxRecDepth 100000 in
theorem itemsCut_lifted (os : Os) (started : os.Started) (H : Type) (enc : TypeId × Value → H) :
    ReturnsInHanded {} Try.checked os 7 .any (Rows.itemsCutSpec.pre6 enc Try.prog Try.f7 Rows.itemsCutRow.domain false) (Rows.itemsCutSpec.post enc Try.prog Try.f7 false true false false) := by
  refine returnsInHanded_of_change (C := Try.checked) Tryown started (by kernel_rfl) Try.func7
    (ChangeSpec.witness6 (enc := enc) (C := Try.checked) false ⟨#[], #[.slice none 0 0, .int .i64 0], []⟩ 8 (by kernel_rfl) (by kernel_rfl) (by kernel_rfl) (by kernel_rfl)) ?_
  intro W base args ds gs before hval0 hW _ _
  have hval : ∀ (j : Nat) t v, Try.f7.params[j]? = some t → args[j]? = some v → Value.okWide Try.prog W .any base t v := hval0
  have hW' := hW
  obtain ⟨p, q, hA0, hV, rfl, hfz, hnd⟩ := hW
  have hA : DataW.TrodAll enc Try.prog W 0 (fun _ => true) true Try.f7.params.toList args.toList ds p := hA0
  rw [Try.params7] at hA hval
  obtain ⟨v0, vs0, d0, ds0, p0, q0, hargs, rfl, rfl, h0, r0⟩ := trodAll_cons hA
  obtain ⟨v1, vs1, d1, ds1, p1, q1, rfl, rfl, rfl, h1, r1⟩ := trodAll_cons r0
  obtain ⟨rfl, rfl, rfl⟩ := trodAll_nil r1
  obtain rfl : args = #[v0, v1] := by cases args; simp_all
  obtain ⟨x0, k0, wf0⟩ := open_items Try.underlying23 (hval 0 23 v0 rfl rfl) h0
  obtain ⟨x1, rfl, rfl, rfl, wf1⟩ := open_int Try.underlying3 (hval 1 3 v1 rfl rfl) h1
  refine (itemsCut_walk x1 k0).mono fun e W' ⟨he, hb⟩ => ?_
  subst he
  exact ⟨_, rfl, post_law TrylaidOut (tb := 4) rfl Try.underlying4 (by kernel_rfl) rfl (fun ds hd => match ds, hd with | [a0, a1], _ => rfl) hW' hb⟩

theorem itemsCut_holds : Rows.ItemsCutSaid :=
  OpenClaim.holds_of_wide 7 Try.f7 rfl rfl rfl rfl rfl rfl rfl ⟨rfl, rfl, rfl, rfl, rfl⟩ rfl rfl rfl rfl rfl (by kernel_rfl) Try.func7 (by kernel_rfl)
    (of_decide_eq_true (by kernel_rfl)) (by unfold Func.isWrapper; first | (rw [if_pos (by decide +kernel)]; kernel_rfl) | (rw [if_neg (by decide +kernel)]; exact ⟨rfl, rfl⟩))
    (fun os started H enc _ => itemsCut_lifted os started H enc)

end Go.Proofs.Ytifigkhahabpfaa
