/- The statement ItemsFinds: for every stack, tag and kind of access the call returns true. No condition. -/
import Derived.Test.YtifigkhahabpfaaItemsG
import Derived.Test.YtifigkhahabpfaaClose
namespace Go.Proofs.Ytifigkhahabpfaa
open Go.ChangeShapes Go.WideShapes Go.ChangeAt Go.RowKit

set_option maxHeartbeats 1600000 in
theorem itemsFinds_walk {l : List Item} {v : Value} {w : World} (tag : Int) (write : Bool) (hl : Its w v l) :
    Calls Try.prog 4 #[v, .int .i64 tag, .bool write] w fun e w' => e = .returned (.bool true) ∧ Ext w w' := by
  by_cases hg : 610 < l.length
  · have hL := Lib.hid hl
    clear hl
    go_enter Try.func4, Try.ntmps4
    go_wp2_with fail
    refine (ref28_Great hL.out).mono ?_
    rintro e w0 ⟨rfl, rfl⟩
    go_wp2
    go_ret
    exact ⟨rfl, Ext.refl _⟩
  · have hL := Lib.hid hl
    clear hl
    go_enter Try.func4, Try.ntmps4
    go_wp2_with fail
    refine (ref28_Great hL.out).mono ?_
    rintro e w0 ⟨rfl, rfl⟩
    go_wp2_with fail
    refine (items_Find tag write hL.out).mono ?_
    rintro e w1 ⟨rfl, hE1⟩
    go_wp2_with fail
    refine (ref28_Find tag write (hL.out.ext hE1)).mono ?_
    rintro e w2 ⟨rfl, hE2⟩
    have hF2 := hE1.trans hE2
    go_wp2_with fail
    refine (items_Base tag _).mono ?_
    rintro e w3 ⟨v3, rfl, hO3, hE3⟩
    have hF3 := hF2.trans hE3
    go_wp2_with fail
    refine (ref28_Base tag _).mono ?_
    rintro e w4 ⟨v4, rfl, hO4, hE4⟩
    have hF4 := hF3.trans hE4
    go_wp2_with fail
    refine (ref28_Same (hO3.ext hE4).sl hO4.sl).mono ?_
    rintro e w5 ⟨rfl, hE5⟩
    have hF5 := hF4.trans hE5
    go_wp2_with fail
    refine (items_Check (hL.out.ext hF5)).mono ?_
    rintro e w6 ⟨rfl, hE6⟩
    have hF6 := hF5.trans hE6
    go_wp2_with fail
    refine (ref28_Check (hL.out.ext hF6)).mono ?_
    rintro e w7 ⟨rfl, hE7⟩
    have hF7 := hF6.trans hE7
    go_wp2
    go_ret
    exact ⟨rfl, hF7⟩

set_option maxRecDepth 100000 in
theorem itemsFinds_lifted (os : Os) (started : os.Started) (H : Type) (enc : TypeId × Value → H) :
    ReturnsInHanded {} Try.checked os 4 .any (Rows.itemsFindsSpec.pre6 enc Try.prog Try.f4 Rows.itemsFindsRow.domain false) (Rows.itemsFindsSpec.post enc Try.prog Try.f4 false true false false) := by
  refine returnsInHanded_of_change (C := Try.checked) Tryown started (by kernel_rfl) Try.func4
    (ChangeSpec.witness6 (enc := enc) (C := Try.checked) false ⟨#[], #[.slice none 0 0, .int .i64 0, .bool false], []⟩ 8 (by kernel_rfl) (by kernel_rfl) (by kernel_rfl) (by kernel_rfl)) ?_
  intro W base args ds gs before hval0 hW _ _
  have hval : ∀ (j : Nat) t v, Try.f4.params[j]? = some t → args[j]? = some v → Value.okWide Try.prog W .any base t v := hval0
  have hW' := hW
  obtain ⟨p, q, hA0, hV, rfl, hfz, hnd⟩ := hW
  have hA : DataW.TrodAll enc Try.prog W 0 (fun _ => true) true Try.f4.params.toList args.toList ds p := hA0
  rw [Try.params4] at hA hval
  obtain ⟨v0, vs0, d0, ds0, p0, q0, hargs, rfl, rfl, h0, r0⟩ := trodAll_cons hA
  obtain ⟨v1, vs1, d1, ds1, p1, q1, rfl, rfl, rfl, h1, r1⟩ := trodAll_cons r0
  obtain ⟨v2, vs2, d2, ds2, p2, q2, rfl, rfl, rfl, h2, r2⟩ := trodAll_cons r1
  obtain ⟨rfl, rfl, rfl⟩ := trodAll_nil r2
  obtain rfl : args = #[v0, v1, v2] := by cases args; simp_all
  obtain ⟨x0, k0, wf0⟩ := open_items Try.underlying23 (hval 0 23 v0 rfl rfl) h0
  obtain ⟨x1, rfl, rfl, rfl, wf1⟩ := open_int Try.underlying3 (hval 1 3 v1 rfl rfl) h1
  obtain ⟨x2, rfl, rfl, rfl⟩ := open_bool Try.underlying4 (hval 2 4 v2 rfl rfl) h2
  refine (itemsFinds_walk x1 x2 k0).mono fun e W' ⟨he, hb⟩ => ?_
  subst he
  exact ⟨_, rfl, post_law TrylaidOut (tb := 4) rfl Try.underlying4 (by kernel_rfl) rfl (fun ds hd => match ds, hd with | [a0, a1, a2], _ => rfl) hW' hb⟩

theorem itemsFinds_holds : Rows.ItemsFindsSaid :=
  OpenClaim.holds_of_wide 4 Try.f4 rfl rfl rfl rfl rfl rfl rfl ⟨rfl, rfl, rfl, rfl, rfl⟩ rfl rfl rfl rfl rfl (by kernel_rfl) Try.func4 (by kernel_rfl)
    (of_decide_eq_true (by kernel_rfl)) (by unfold Func.isWrapper; first | (rw [if_pos (by decide +kernel)]; kernel_rfl) | (rw [if_neg (by decide +kernel)]; exact ⟨rfl, rfl⟩))
    (fun os started H enc _ => itemsFinds_lifted os started H enc)

end Go.Proofs.Ytifigkhahabpfaa
