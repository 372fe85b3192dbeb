/- The statement AccessLess: for every stack, two tags and which accesses, the call returns true. No condition. -/
import Derived.Test.YtifigkhahabpfaaAccD
import Derived.Test.YtifigkhahabpfaaAccE
import Derived.Test.YtifigkhahabpfaaLaw29A
import Derived.Test.YtifigkhahabpfaaClose
namespace Go.Proofs.Ytifigkhahabpfaa
open Go.ChangeShapes Go.WideShapes Go.ChangeAt Go.RowKit

set_option maxHeartbeats 6400000 in
theorem accessLess_walk {l : List Item} {v : Value} {w : World} (tag other : Int) (write ad : Bool) (hl : Its w v l) :
    Calls Try.prog 13 #[v, .int .i64 tag, .int .i64 other, .bool write, .bool ad] w fun e w' => e = .returned (.bool true) ∧ Ext w w' := by
  have hF0 := Ext.refl w
  have hL := hl
  obtain ⟨a, cp, rfl, -⟩ := hl.form
  clear hl
  by_cases hg : 610 < l.length
  · go_enter Try.func13, Try.ntmps13
    go_wp2_with fail
    refine (law29_alive _).mono ?_
    rintro e w1 ⟨rfl, hE1⟩
    have hF1 := hF0.trans hE1
    replace hL := hL.ext hE1
    go_wp2_with fail
    refine (ref28_Great hL).mono ?_
    rintro e w2 ⟨rfl, rfl⟩
    go_wp2
    go_ret
    exact ⟨rfl, hF1⟩
  cases hk : okS l
  · have h8 : Hid (chk l = 8) := Hid.mk (by simp [chk, hk])
    go_enter Try.func13, Try.ntmps13
    go_wp2_with fail
    refine (law29_alive _).mono ?_
    rintro e w1 ⟨rfl, hE1⟩
    have hF1 := hF0.trans hE1
    replace hL := hL.ext hE1
    go_wp2_with fail
    refine (ref28_Great hL).mono ?_
    rintro e w2 ⟨rfl, rfl⟩
    go_wp2_with fail
    refine (ref28_Check hL).mono ?_
    rintro e w3 ⟨rfl, hE3⟩
    have hF3 := hF1.trans hE3
    replace hL := hL.ext hE3
    rw [h8.out]
    go_wp2
    go_ret
    exact ⟨rfl, hF3⟩
  have h0 : Hid (chk l = 0) := Hid.mk (by simp [chk, hk])
  cases hf : findAt l tag write with
  | none =>
    have hx : Hid (accL l tag write = [] ∧ accW l tag write = 1) := Hid.mk (by simp [accL, accW, usedL, usedW, hk, hf])
    clear hk hf
    go_enter Try.func13, Try.ntmps13
    go_wp2_with fail
    refine (law29_alive _).mono ?_
    rintro e w1 ⟨rfl, hE1⟩
    have hF1 := hF0.trans hE1
    replace hL := hL.ext hE1
    go_wp2_with fail
    refine (ref28_Great hL).mono ?_
    rintro e w2 ⟨rfl, rfl⟩
    go_wp2_with fail
    refine (ref28_Check hL).mono ?_
    rintro e w3 ⟨rfl, hE3⟩
    have hF3 := hF1.trans hE3
    replace hL := hL.ext hE3
    rw [h0.out]
    go_wp2_with fail
    refine (law29_use tag write hL).mono ?_
    rintro e w4 ⟨va, vb, rfl, ha, hb, hE4⟩
    have hF4 := hF3.trans hE4
    replace hL := hL.ext hE4
    rw [hx.out.1] at ha
    rw [hx.out.2, h0.out]
    obtain ⟨aa, ca, rfl, -⟩ := ha.form
    go_wp2
    go_ret
    exact ⟨rfl, hF4⟩
  | some i =>
    obtain ⟨m, hm⟩ : ∃ m, useLeft l i write = m := ⟨_, rfl⟩
    have hx : Hid (accL l tag write = m ∧ accW l tag write = 0) := Hid.mk (by simp [accL, accW, usedL, usedW, hk, hf, hm])
    have hlen : m.length ≤ l.length := by rw [← hm]; exact useLeft_len _ _ _
    have hmk : Hid (chk m = 0) := Hid.mk (by rw [← hm]; simp [chk, useLeft_ok hk])
    have hmay : mayB m other ad = true → mayB l other ad = true := by rw [← hm]; exact useLeft_may hk
    have hle : decide ((l.length : Int) < (m.length : Int)) = false := decide_eq_false (by omega)
    clear hk hf hm
    cases e1 : mayB m other ad <;> cases e2 : mayB l other ad
    rotate_left 2
    · rw [e1, e2] at hmay; exact absurd (hmay rfl) (by simp)
    all_goals
      have e1' := Lib.hid e1; have e2' := Lib.hid e2
      clear e1 e2 hmay
      go_enter Try.func13, Try.ntmps13
      go_wp2_with fail
      refine (law29_alive _).mono ?_
      rintro e w1 ⟨rfl, hE1⟩
      have hF1 := hF0.trans hE1
      replace hL := hL.ext hE1
      go_wp2_with fail
      refine (ref28_Great hL).mono ?_
      rintro e w2 ⟨rfl, rfl⟩
      go_wp2_with fail
      refine (ref28_Check hL).mono ?_
      rintro e w3 ⟨rfl, hE3⟩
      have hF3 := hF1.trans hE3
      replace hL := hL.ext hE3
      rw [h0.out]
      go_wp2_with fail
      refine (law29_use tag write hL).mono ?_
      rintro e w4 ⟨va, vb, rfl, ha, hb, hE4⟩
      have hF4 := hF3.trans hE4
      replace hL := hL.ext hE4
      rw [hx.out.1] at ha
      rw [hx.out.2, h0.out]
      obtain ⟨aa, ca, rfl, -⟩ := ha.form
      go_wp2_with fail
      refine (access_May other ad hL).mono ?_
      rintro e w5 ⟨rfl, hE5⟩
      have hF5 := hF4.trans hE5
      replace hL := hL.ext hE5
      replace ha := ha.ext hE5
      rw [e2'.out, h0.out]
      go_wp2_with fail
      refine (access_May other ad ha).mono ?_
      rintro e w6 ⟨rfl, hE6⟩
      have hF6 := hF5.trans hE6
      replace hL := hL.ext hE6
      replace ha := ha.ext hE6
      rw [e1'.out, hmk.out]
      go_wp2
      go_ret
      exact ⟨rfl, hF6⟩

set_option maxRecDepth 100000 in
theorem accessLess_lifted (os : Os) (started : os.Started) (H : Type) (enc : TypeId × Value → H) :
    ReturnsInHanded {} Try.checked os 13 .any (Rows.accessLessSpec.pre6 enc Try.prog Try.f13 Rows.accessLessRow.domain false) (Rows.accessLessSpec.post enc Try.prog Try.f13 false true false false) := by
  refine returnsInHanded_of_change (C := Try.checked) Tryown started (by kernel_rfl) Try.func13
    (ChangeSpec.witness6 (enc := enc) (C := Try.checked) false ⟨#[], #[.slice none 0 0, .int .i64 0, .int .i64 0, .bool false, .bool false], []⟩ 8 (by kernel_rfl) (by kernel_rfl) (by kernel_rfl) (by kernel_rfl)) ?_
  intro W base args ds gs before hval0 hW _ _
  have hval : ∀ (j : Nat) t v, Try.f13.params[j]? = some t → args[j]? = some v → Value.okWide Try.prog W .any base t v := hval0
  have hW' := hW
  obtain ⟨p, q, hA0, hV, rfl, hfz, hnd⟩ := hW
  have hA : DataW.TrodAll enc Try.prog W 0 (fun _ => true) true Try.f13.params.toList args.toList ds p := hA0
  rw [Try.params13] at hA hval
  obtain ⟨v0, vs0, d0, ds0, p0, q0, hargs, rfl, rfl, h0, r0⟩ := trodAll_cons hA
  obtain ⟨v1, vs1, d1, ds1, p1, q1, rfl, rfl, rfl, h1, r1⟩ := trodAll_cons r0
  obtain ⟨v2, vs2, d2, ds2, p2, q2, rfl, rfl, rfl, h2, r2⟩ := trodAll_cons r1
  obtain ⟨v3, vs3, d3, ds3, p3, q3, rfl, rfl, rfl, h3, r3⟩ := trodAll_cons r2
  obtain ⟨v4, vs4, d4, ds4, p4, q4, rfl, rfl, rfl, h4, r4⟩ := trodAll_cons r3
  obtain ⟨rfl, rfl, rfl⟩ := trodAll_nil r4
  obtain rfl : args = #[v0, v1, v2, v3, v4] := by cases args; simp_all
  obtain ⟨x0, k0, wf0⟩ := open_items Try.underlying23 (hval 0 23 v0 rfl rfl) h0
  obtain ⟨x1, rfl, rfl, rfl, wf1⟩ := open_int Try.underlying3 (hval 1 3 v1 rfl rfl) h1
  obtain ⟨x2, rfl, rfl, rfl, wf2⟩ := open_int Try.underlying3 (hval 2 3 v2 rfl rfl) h2
  obtain ⟨x3, rfl, rfl, rfl⟩ := open_bool Try.underlying4 (hval 3 4 v3 rfl rfl) h3
  obtain ⟨x4, rfl, rfl, rfl⟩ := open_bool Try.underlying4 (hval 4 4 v4 rfl rfl) h4
  refine (accessLess_walk x1 x2 x3 x4 k0).mono fun e W' ⟨he, hb⟩ => ?_
  subst he
  exact ⟨_, rfl, post_law TrylaidOut (tb := 4) rfl Try.underlying4 (by kernel_rfl) rfl (fun ds hd => match ds, hd with | [a0, a1, a2, a3, a4], _ => rfl) hW' hb⟩

theorem accessLess_holds : Rows.AccessLessSaid :=
  OpenClaim.holds_of_wide 13 Try.f13 rfl rfl rfl rfl rfl rfl rfl ⟨rfl, rfl, rfl, rfl, rfl⟩ rfl rfl rfl rfl rfl (by kernel_rfl) Try.func13 (by kernel_rfl)
    (of_decide_eq_true (by kernel_rfl)) (by unfold Func.isWrapper; first | (rw [if_pos (by decide +kernel)]; kernel_rfl) | (rw [if_neg (by decide +kernel)]; exact ⟨rfl, rfl⟩))
    (fun os started H enc _ => accessLess_lifted os started H enc)

end Go.Proofs.Ytifigkhahabpfaa
