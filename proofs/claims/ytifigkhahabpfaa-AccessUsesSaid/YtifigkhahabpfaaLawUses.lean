/- The statement AccessUses: for every stack, tag and kind of access the call returns true. No condition. -/
import Derived.Test.YtifigkhahabpfaaAccD
import Derived.Test.YtifigkhahabpfaaClose
namespace Go.Proofs.Ytifigkhahabpfaa
open Go.ChangeShapes Go.WideShapes Go.ChangeAt Go.RowKit

set_option maxHeartbeats 3200000 in
theorem accessUses_walk {l : List Item} {v : Value} {w : World} (tag : Int) (write : Bool) (hl : Its w v l) :
    Calls Try.prog 9 #[v, .int .i64 tag, .bool write] w fun e w' => e = .returned (.bool true) ∧ Ext w w' := by
  have hF0 := Ext.refl w
  have hL := hl
  obtain ⟨a, cp, rfl, -⟩ := hl.form
  clear hl
  by_cases hg : 610 < l.length
  · go_enter Try.func9, Try.ntmps9
    go_wp2_with fail
    refine (ref28_Great hL).mono ?_
    rintro e w1 ⟨rfl, rfl⟩
    go_wp2
    go_ret
    exact ⟨rfl, hF0⟩
  · have hg1 : l.length ≤ 1000000 := by omega
    go_enter Try.func9, Try.ntmps9
    go_wp2_with fail
    refine (ref28_Great hL).mono ?_
    rintro e w1 ⟨rfl, rfl⟩
    go_wp2_with fail
    refine (ref28_Twin hL hg1).mono ?_
    rintro e w2 ⟨u, rfl, hu, hE2⟩
    have hF2 := hF0.trans hE2
    replace hL := hL.ext hE2
    have hU : Its _ u l := hu.sl
    go_wp2_with fail
    refine (access_Read tag hL).mono ?_
    rintro e w3 ⟨va, vb, rfl, ha, hb, hE3⟩
    have hF3 := hF2.trans hE3
    replace hL := hL.ext hE3
    replace hU := hU.ext hE3
    go_wp2_with fail
    refine (ref29_Read tag hU).mono ?_
    rintro e w4 ⟨vc, vd, rfl, hc, hd, hE4⟩
    have hF4 := hF3.trans hE4
    replace hL := hL.ext hE4
    replace hU := hU.ext hE4
    replace ha := ha.ext hE4
    replace hb := hb.ext hE4
    go_wp2_with fail
    refine (access_Write tag hL).mono ?_
    rintro e w5 ⟨ve, vf, rfl, he, hf, hE5⟩
    have hF5 := hF4.trans hE5
    replace hL := hL.ext hE5
    replace hU := hU.ext hE5
    replace ha := ha.ext hE5
    replace hb := hb.ext hE5
    replace hc := hc.ext hE5
    replace hd := hd.ext hE5
    go_wp2_with fail
    refine (ref29_Write tag hU).mono ?_
    rintro e w6 ⟨vx, vy, rfl, hx, hy, hE6⟩
    have hF6 := hF5.trans hE6
    replace hL := hL.ext hE6
    replace hU := hU.ext hE6
    replace ha := ha.ext hE6
    replace hb := hb.ext hE6
    replace hc := hc.ext hE6
    replace hd := hd.ext hE6
    replace he := he.ext hE6
    replace hf := hf.ext hE6
    go_wp2_with fail
    refine (access_May tag write hL).mono ?_
    rintro e w7 ⟨rfl, hE7⟩
    have hF7 := hF6.trans hE7
    replace hL := hL.ext hE7
    replace hU := hU.ext hE7
    replace ha := ha.ext hE7
    replace hb := hb.ext hE7
    replace hc := hc.ext hE7
    replace hd := hd.ext hE7
    replace he := he.ext hE7
    replace hf := hf.ext hE7
    replace hx := hx.ext hE7
    replace hy := hy.ext hE7
    go_wp2_with fail
    refine (ref29_May tag write hU).mono ?_
    rintro e w8 ⟨rfl, hE8⟩
    have hF8 := hF7.trans hE8
    replace hL := hL.ext hE8
    replace hU := hU.ext hE8
    replace ha := ha.ext hE8
    replace hb := hb.ext hE8
    replace hc := hc.ext hE8
    replace hd := hd.ext hE8
    replace he := he.ext hE8
    replace hf := hf.ext hE8
    replace hx := hx.ext hE8
    replace hy := hy.ext hE8
    go_wp2_with fail
    refine (ref28_Same_yes ha hc).mono ?_
    rintro e w9 ⟨rfl, hE9⟩
    have hF9 := hF8.trans hE9
    replace hL := hL.ext hE9
    replace hU := hU.ext hE9
    replace ha := ha.ext hE9
    replace hb := hb.ext hE9
    replace hc := hc.ext hE9
    replace hd := hd.ext hE9
    replace he := he.ext hE9
    replace hf := hf.ext hE9
    replace hx := hx.ext hE9
    replace hy := hy.ext hE9
    go_wp2_with fail
    refine (ref28_Same_yes hb hd).mono ?_
    rintro e w10 ⟨rfl, hE10⟩
    have hF10 := hF9.trans hE10
    replace hL := hL.ext hE10
    replace hU := hU.ext hE10
    replace ha := ha.ext hE10
    replace hb := hb.ext hE10
    replace hc := hc.ext hE10
    replace hd := hd.ext hE10
    replace he := he.ext hE10
    replace hf := hf.ext hE10
    replace hx := hx.ext hE10
    replace hy := hy.ext hE10
    go_wp2_with fail
    refine (ref28_Same_yes he hx).mono ?_
    rintro e w11 ⟨rfl, hE11⟩
    have hF11 := hF10.trans hE11
    replace hL := hL.ext hE11
    replace hU := hU.ext hE11
    replace ha := ha.ext hE11
    replace hb := hb.ext hE11
    replace hc := hc.ext hE11
    replace hd := hd.ext hE11
    replace he := he.ext hE11
    replace hf := hf.ext hE11
    replace hx := hx.ext hE11
    replace hy := hy.ext hE11
    go_wp2_with fail
    refine (ref28_Same_yes hf hy).mono ?_
    rintro e w12 ⟨rfl, hE12⟩
    have hF12 := hF11.trans hE12
    replace hL := hL.ext hE12
    replace hU := hU.ext hE12
    replace ha := ha.ext hE12
    replace hb := hb.ext hE12
    replace hc := hc.ext hE12
    replace hd := hd.ext hE12
    replace he := he.ext hE12
    replace hf := hf.ext hE12
    replace hx := hx.ext hE12
    replace hy := hy.ext hE12
    go_wp2_with fail
    refine (ref28_Same_yes hL hU).mono ?_
    rintro e w13 ⟨rfl, hE13⟩
    have hF13 := hF12.trans hE13
    replace hL := hL.ext hE13
    replace hU := hU.ext hE13
    replace ha := ha.ext hE13
    replace hb := hb.ext hE13
    replace hc := hc.ext hE13
    replace hd := hd.ext hE13
    replace he := he.ext hE13
    replace hf := hf.ext hE13
    replace hx := hx.ext hE13
    replace hy := hy.ext hE13
    go_wp2
    go_ret
    exact ⟨rfl, hF13⟩

set_option maxRecDepth 100000 in
theorem accessUses_lifted (os : Os) (started : os.Started) (H : Type) (enc : TypeId × Value → H) :
    ReturnsInHanded {} Try.checked os 9 .any (Rows.accessUsesSpec.pre6 enc Try.prog Try.f9 Rows.accessUsesRow.domain false) (Rows.accessUsesSpec.post enc Try.prog Try.f9 false true false false) := by
  refine returnsInHanded_of_change (C := Try.checked) Tryown started (by kernel_rfl) Try.func9
    (ChangeSpec.witness6 (enc := enc) (C := Try.checked) false ⟨#[], #[.slice none 0 0, .int .i64 0, .bool false], []⟩ 8 (by kernel_rfl) (by kernel_rfl) (by kernel_rfl) (by kernel_rfl)) ?_
  intro W base args ds gs before hval0 hW _ _
  have hval : ∀ (j : Nat) t v, Try.f9.params[j]? = some t → args[j]? = some v → Value.okWide Try.prog W .any base t v := hval0
  have hW' := hW
  obtain ⟨p, q, hA0, hV, rfl, hfz, hnd⟩ := hW
  have hA : DataW.TrodAll enc Try.prog W 0 (fun _ => true) true Try.f9.params.toList args.toList ds p := hA0
  rw [Try.params9] at hA hval
  obtain ⟨v0, vs0, d0, ds0, p0, q0, hargs, rfl, rfl, h0, r0⟩ := trodAll_cons hA
  obtain ⟨v1, vs1, d1, ds1, p1, q1, rfl, rfl, rfl, h1, r1⟩ := trodAll_cons r0
  obtain ⟨v2, vs2, d2, ds2, p2, q2, rfl, rfl, rfl, h2, r2⟩ := trodAll_cons r1
  obtain ⟨rfl, rfl, rfl⟩ := trodAll_nil r2
  obtain rfl : args = #[v0, v1, v2] := by cases args; simp_all
  obtain ⟨x0, k0, wf0⟩ := open_items Try.underlying23 (hval 0 23 v0 rfl rfl) h0
  obtain ⟨x1, rfl, rfl, rfl, wf1⟩ := open_int Try.underlying3 (hval 1 3 v1 rfl rfl) h1
  obtain ⟨x2, rfl, rfl, rfl⟩ := open_bool Try.underlying4 (hval 2 4 v2 rfl rfl) h2
  refine (accessUses_walk x1 x2 k0).mono fun e W' ⟨he, hb⟩ => ?_
  subst he
  exact ⟨_, rfl, post_law TrylaidOut (tb := 4) rfl Try.underlying4 (by kernel_rfl) rfl (fun ds hd => match ds, hd with | [a0, a1, a2], _ => rfl) hW' hb⟩

theorem accessUses_holds : Rows.AccessUsesSaid :=
  OpenClaim.holds_of_wide 9 Try.f9 rfl rfl rfl rfl rfl rfl rfl ⟨rfl, rfl, rfl, rfl, rfl⟩ rfl rfl rfl rfl rfl (by kernel_rfl) Try.func9 (by kernel_rfl)
    (of_decide_eq_true (by kernel_rfl)) (by unfold Func.isWrapper; first | (rw [if_pos (by decide +kernel)]; kernel_rfl) | (rw [if_neg (by decide +kernel)]; exact ⟨rfl, rfl⟩))
    (fun os started H enc _ => accessUses_lifted os started H enc)

end Go.Proofs.Ytifigkhahabpfaa
