/- The statement AccessAgain: for every stack, tag and kind of access the call returns true. No condition. -/
import Derived.Test.YtifigkhahabpfaaAccD
import Derived.Test.YtifigkhahabpfaaAccE
import Derived.Test.YtifigkhahabpfaaLaw29A
import Derived.Test.YtifigkhahabpfaaClose
namespace Go.Proofs.Ytifigkhahabpfaa
open Go.ChangeShapes Go.WideShapes Go.ChangeAt Go.RowKit

set_option maxHeartbeats 6400000 in
theorem accessAgain_walk {l : List Item} {v : Value} {w : World} (tag : Int) (write : Bool) (hl : Its w v l) :
    Calls Try.prog 12 #[v, .int .i64 tag, .bool write] w fun e w' => e = .returned (.bool true) ∧ Ext w w' := by
  have hF0 := Ext.refl w
  have hL := hl
  obtain ⟨a, cp, rfl, -⟩ := hl.form
  clear hl
  by_cases hg : 610 < l.length
  · go_enter Try.func12, Try.ntmps12
    go_wp2_with fail
    refine (law29_alive _).mono ?_
    rintro e w1 ⟨rfl, hE1⟩
    have hF1 := hF0.trans hE1
    replace hL := hL.ext hE1
    go_wp2_with fail
    refine (ref28_Great hL).mono ?_
    rintro e w2 ⟨rfl, rfl⟩
    go_wp2
    go_ret
    exact ⟨rfl, hF1⟩
  cases hk : okS l
  · have h8 : Hid (chk l = 8) := Hid.mk (by simp [chk, hk])
    go_enter Try.func12, Try.ntmps12
    go_wp2_with fail
    refine (law29_alive _).mono ?_
    rintro e w1 ⟨rfl, hE1⟩
    have hF1 := hF0.trans hE1
    replace hL := hL.ext hE1
    go_wp2_with fail
    refine (ref28_Great hL).mono ?_
    rintro e w2 ⟨rfl, rfl⟩
    go_wp2_with fail
    refine (ref28_Check hL).mono ?_
    rintro e w3 ⟨rfl, hE3⟩
    have hF3 := hF1.trans hE3
    replace hL := hL.ext hE3
    rw [h8.out]
    go_wp2
    go_ret
    exact ⟨rfl, hF3⟩
  have h0 : Hid (chk l = 0) := Hid.mk (by simp [chk, hk])
  cases hf : findAt l tag write with
  | none =>
    have hx : Hid (accL l tag write = [] ∧ accW l tag write = 1) := Hid.mk (by simp [accL, accW, usedL, usedW, hk, hf])
    clear hk hf
    cases e1 : mayB l tag false <;> cases e2 : mayB l tag true
    rotate_left 1
    · exact absurd (mayB_read e2) (by simp [e1])
    all_goals
      have e1' := Lib.hid e1; have e2' := Lib.hid e2
      clear e1 e2
      go_enter Try.func12, Try.ntmps12
      go_wp2_with fail
      refine (law29_alive _).mono ?_
      rintro e w1 ⟨rfl, hE1⟩
      have hF1 := hF0.trans hE1
      replace hL := hL.ext hE1
      go_wp2_with fail
      refine (ref28_Great hL).mono ?_
      rintro e w2 ⟨rfl, rfl⟩
      go_wp2_with fail
      refine (ref28_Check hL).mono ?_
      rintro e w3 ⟨rfl, hE3⟩
      have hF3 := hF1.trans hE3
      replace hL := hL.ext hE3
      rw [h0.out]
      go_wp2_with fail
      refine (law29_use tag write hL).mono ?_
      rintro e w4 ⟨va, vb, rfl, ha, hb, hE4⟩
      have hF4 := hF3.trans hE4
      replace hL := hL.ext hE4
      rw [hx.out.1] at ha
      rw [hx.out.2, h0.out]
      obtain ⟨aa, ca, rfl, -⟩ := ha.form
      go_wp2_with fail
      refine (access_May tag false hL).mono ?_
      rintro e w5 ⟨rfl, hE5⟩
      have hF5 := hF4.trans hE5
      replace hL := hL.ext hE5
      replace ha := ha.ext hE5
      rw [e1'.out, h0.out]
      go_wp2_with fail
      refine (access_May tag true hL).mono ?_
      rintro e w6 ⟨rfl, hE6⟩
      have hF6 := hF5.trans hE6
      replace hL := hL.ext hE6
      replace ha := ha.ext hE6
      rw [e2'.out, h0.out]
      go_wp2
      go_ret
      exact ⟨rfl, hF6⟩
  | some i =>
    have hag := use_again hk hf
    have hsz : 0 < (useLeft l i write).length := useLeft_pos (findAt_is hf)
    have htop : write = true → ∃ z : Item, (useLeft l i write)[(useLeft l i write).length - 1]? = some z ∧ z.t = tag ∧ (z.p = 1 ∨ z.p = 3) := by
      intro e
      subst e
      obtain ⟨z, h1, h2, h3, h4⟩ := use_top hk hf
      exact ⟨z, by rw [h2]; simpa using h1, h3, h4⟩
    obtain ⟨m, hm⟩ : ∃ m, useLeft l i write = m := ⟨_, rfl⟩
    have hx : Hid (accL l tag write = m ∧ accW l tag write = 0) := Hid.mk (by simp [accL, accW, usedL, usedW, hk, hf, hm])
    rw [hm] at hag hsz htop
    obtain ⟨q, hq⟩ : ∃ q, m.length = q + 1 := ⟨m.length - 1, by omega⟩
    rw [hq, Nat.add_sub_cancel] at htop
    obtain ⟨z, hz⟩ : ∃ z, m[q]? = some z := ⟨m[q], by simp⟩
    have hz2 : write = true → z.t = tag ∧ (z.p = 1 ∨ z.p = 3) := by
      intro e
      obtain ⟨z', h1, h2⟩ := htop e
      rw [hz] at h1
      cases h1
      exact h2
    have hm6 : m.length ≤ l.length := by rw [← hm]; exact useLeft_len _ _ _
    clear hk hf hm htop
    have hid_hag := Lib.hid hag; clear hag; have hag := hid_hag; clear hid_hag
    have hid_hz := Lib.hid hz; clear hz; have hz := hid_hz; clear hid_hz
    have hid_hz2 := Lib.hid hz2; clear hz2; have hz2 := hid_hz2; clear hid_hz2
    have hm0 : ((m.length : Int) == 0) = false := beq_eq_false_iff_ne.2 (by omega)
    have hid_hq := Lib.hid hq; clear hq; have hq := hid_hq; clear hid_hq
    clear hsz
    cases e1 : mayB l tag false <;> cases e2 : mayB l tag true
    rotate_left 1
    · exact absurd (mayB_read e2) (by simp [e1])
    all_goals
      have e1' := Lib.hid e1; have e2' := Lib.hid e2
      clear e1 e2
      go_enter Try.func12, Try.ntmps12
      go_wp2_with fail
      refine (law29_alive _).mono ?_
      rintro e w1 ⟨rfl, hE1⟩
      have hF1 := hF0.trans hE1
      replace hL := hL.ext hE1
      go_wp2_with fail
      refine (ref28_Great hL).mono ?_
      rintro e w2 ⟨rfl, rfl⟩
      go_wp2_with fail
      refine (ref28_Check hL).mono ?_
      rintro e w3 ⟨rfl, hE3⟩
      have hF3 := hF1.trans hE3
      replace hL := hL.ext hE3
      rw [h0.out]
      go_wp2_with fail
      refine (law29_use tag write hL).mono ?_
      rintro e w4 ⟨va, vb, rfl, ha, hb, hE4⟩
      have hF4 := hF3.trans hE4
      replace hL := hL.ext hE4
      rw [hx.out.1] at ha
      rw [hx.out.2, h0.out]
      obtain ⟨aa, ca, rfl, -⟩ := ha.form
      go_wp2_with fail
      refine (access_May tag false hL).mono ?_
      rintro e w5 ⟨rfl, hE5⟩
      have hF5 := hF4.trans hE5
      replace hL := hL.ext hE5
      replace ha := ha.ext hE5
      rw [e1'.out, h0.out]
      go_wp2_with fail
      refine (access_May tag true hL).mono ?_
      rintro e w6 ⟨rfl, hE6⟩
      have hF6 := hF5.trans hE6
      replace hL := hL.ext hE6
      replace ha := ha.ext hE6
      rw [e2'.out, h0.out]
      go_wp2_with fail
      refine (law29_leaves tag write ha ha (Its.nil _) hag.out).mono ?_
      rintro e w7 ⟨rfl, hE7⟩
      have hF7 := hF6.trans hE7
      replace hL := hL.ext hE7
      replace ha := ha.ext hE7
      go_wp2_with fail
      refine (items_Check ha).mono ?_
      rintro e w8 ⟨rfl, hE8⟩
      have hF8 := hF7.trans hE8
      replace hL := hL.ext hE8
      replace ha := ha.ext hE8
      rw [hag.out.1]
      have hq' := hq.out
      obtain ⟨b, off, rfl, hb, c0, c1, c2⟩ := Its.cell ha hz.out
      cases write
      · go_wp2
        go_ret
        first | exact ⟨rfl, hF8⟩ | exact ⟨rfl, hF8.trans ((Ext.refl _).alloc _)⟩
      · obtain ⟨ht, hp⟩ := hz2.out rfl
        have ht' : (z.t == tag) = true := by simp [ht]
        clear ht
        rcases hp with hp | hp
        · have p1 : (z.p == 1) = true := by simp [hp]
          clear hp
          go_wp2
          go_ret
          first | exact ⟨rfl, hF8⟩ | exact ⟨rfl, hF8.trans ((Ext.refl _).alloc _)⟩
        · have p1 : (z.p == 1) = false := by simp [hp]
          have p3 : (z.p == 3) = true := by simp [hp]
          clear hp
          go_wp2
          go_ret
          first | exact ⟨rfl, hF8⟩ | exact ⟨rfl, hF8.trans ((Ext.refl _).alloc _)⟩

set_option maxRecDepth 100000 in
theorem accessAgain_lifted (os : Os) (started : os.Started) (H : Type) (enc : TypeId × Value → H) :
    ReturnsInHanded {} Try.checked os 12 .any (Rows.accessAgainSpec.pre6 enc Try.prog Try.f12 Rows.accessAgainRow.domain false) (Rows.accessAgainSpec.post enc Try.prog Try.f12 false true false false) := by
  refine returnsInHanded_of_change (C := Try.checked) Tryown started (by kernel_rfl) Try.func12
    (ChangeSpec.witness6 (enc := enc) (C := Try.checked) false ⟨#[], #[.slice none 0 0, .int .i64 0, .bool false], []⟩ 8 (by kernel_rfl) (by kernel_rfl) (by kernel_rfl) (by kernel_rfl)) ?_
  intro W base args ds gs before hval0 hW _ _
  have hval : ∀ (j : Nat) t v, Try.f12.params[j]? = some t → args[j]? = some v → Value.okWide Try.prog W .any base t v := hval0
  have hW' := hW
  obtain ⟨p, q, hA0, hV, rfl, hfz, hnd⟩ := hW
  have hA : DataW.TrodAll enc Try.prog W 0 (fun _ => true) true Try.f12.params.toList args.toList ds p := hA0
  rw [Try.params12] at hA hval
  obtain ⟨v0, vs0, d0, ds0, p0, q0, hargs, rfl, rfl, h0, r0⟩ := trodAll_cons hA
  obtain ⟨v1, vs1, d1, ds1, p1, q1, rfl, rfl, rfl, h1, r1⟩ := trodAll_cons r0
  obtain ⟨v2, vs2, d2, ds2, p2, q2, rfl, rfl, rfl, h2, r2⟩ := trodAll_cons r1
  obtain ⟨rfl, rfl, rfl⟩ := trodAll_nil r2
  obtain rfl : args = #[v0, v1, v2] := by cases args; simp_all
  obtain ⟨x0, k0, wf0⟩ := open_items Try.underlying23 (hval 0 23 v0 rfl rfl) h0
  obtain ⟨x1, rfl, rfl, rfl, wf1⟩ := open_int Try.underlying3 (hval 1 3 v1 rfl rfl) h1
  obtain ⟨x2, rfl, rfl, rfl⟩ := open_bool Try.underlying4 (hval 2 4 v2 rfl rfl) h2
  refine (accessAgain_walk x1 x2 k0).mono fun e W' ⟨he, hb⟩ => ?_
  subst he
  exact ⟨_, rfl, post_law TrylaidOut (tb := 4) rfl Try.underlying4 (by kernel_rfl) rfl (fun ds hd => match ds, hd with | [a0, a1, a2], _ => rfl) hW' hb⟩

theorem accessAgain_holds : Rows.AccessAgainSaid :=
  OpenClaim.holds_of_wide 12 Try.f12 rfl rfl rfl rfl rfl rfl rfl ⟨rfl, rfl, rfl, rfl, rfl⟩ rfl rfl rfl rfl rfl (by kernel_rfl) Try.func12 (by kernel_rfl)
    (of_decide_eq_true (by kernel_rfl)) (by unfold Func.isWrapper; first | (rw [if_pos (by decide +kernel)]; kernel_rfl) | (rw [if_neg (by decide +kernel)]; exact ⟨rfl, rfl⟩))
    (fun os started H enc _ => accessAgain_lifted os started H enc)

end Go.Proofs.Ytifigkhahabpfaa
