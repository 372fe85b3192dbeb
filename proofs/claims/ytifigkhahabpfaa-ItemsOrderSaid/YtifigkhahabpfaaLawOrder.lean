/- The statement ItemsOrder: for every stack and tag the call returns true. No condition. -/
import Derived.Test.YtifigkhahabpfaaLaw28A
import Derived.Test.YtifigkhahabpfaaClose
namespace Go.Proofs.Ytifigkhahabpfaa
open Go.ChangeShapes Go.WideShapes Go.ChangeAt Go.RowKit

set_option maxRecDepth 100000 in
set_option maxHeartbeats 6400000 in
theorem itemsOrder_out {l : List Item} {v : Value} {w : World} (tag : Int) (hl : Its w v l) (hk : 610 < l.length ∨ okS l = false) :
    Calls Try.prog 3 #[v, .int .i64 tag] w fun e w' => e = .returned (.bool true) ∧ Ext w w' := by
  have hF0 := Ext.refl w
  have hL := hl
  obtain ⟨a, cp, rfl, hlc, hcm, -⟩ := hl.form
  unfold maxLen at hcm
  clear hl
  by_cases hg : 610 < l.length
  · go_enter Try.func3, Try.ntmps3
    go_wp2_with fail
    refine (law28_alive _).mono ?_
    rintro e w1 ⟨rfl, hE1⟩
    have hF1 := hF0.trans hE1
    replace hL := hL.ext hE1
    go_wp2_with fail
    refine (ref28_Great hL).mono ?_
    rintro e w2 ⟨rfl, rfl⟩
    go_wp2
    go_ret
    exact ⟨rfl, hF1⟩
  · have h8 : Hid (chk l = 8) := Hid.mk (by rcases hk with hk | hk; exact absurd hk hg; simp [chk, hk])
    clear hk
    go_enter Try.func3, Try.ntmps3
    go_wp2_with fail
    refine (law28_alive _).mono ?_
    rintro e w1 ⟨rfl, hE1⟩
    have hF1 := hF0.trans hE1
    replace hL := hL.ext hE1
    go_wp2_with fail
    refine (ref28_Great hL).mono ?_
    rintro e w2 ⟨rfl, rfl⟩
    go_wp2_with fail
    refine (ref28_Check hL).mono ?_
    rintro e w3 ⟨rfl, hE3⟩
    have hF3 := hF1.trans hE3
    replace hL := hL.ext hE3
    rw [h8.out]
    go_wp2
    go_ret
    exact ⟨rfl, hF3⟩

set_option maxRecDepth 100000 in
set_option maxHeartbeats 6400000 in
theorem itemsOrder_nn {l : List Item} {v : Value} {w : World} (tag : Int) (hl : Its w v l) (hk : okS l = true) (hr : findAt l tag false = none) (hw : findAt l tag true = none) :
    Calls Try.prog 3 #[v, .int .i64 tag] w fun e w' => e = .returned (.bool true) ∧ Ext w w' := by
  have hF0 := Ext.refl w
  have hL := hl
  obtain ⟨a, cp, rfl, hlc, hcm, -⟩ := hl.form
  unfold maxLen at hcm
  clear hl
  have h0 : Hid (chk l = 0) := Hid.mk (by simp [chk, hk])
  have hl6 : l.length ≤ 600 := by simp [okS] at hk; omega
  have hg : ¬ 610 < l.length := by omega
  have e1 : Hid (findIx l tag false = 0 ∧ findErr l tag false = 6) := Hid.mk (by simp [findIx, findErr, hk, hr])
  have e2 : Hid (findIx l tag true = 0 ∧ findErr l tag true = 6) := Hid.mk (by simp [findIx, findErr, hk, hw])
  have hno := Lib.hid (findAt_no hr)
  clear hk hr hw
  go_enter Try.func3, Try.ntmps3
  go_wp2_with fail
  refine (law28_alive _).mono ?_
  rintro e w1 ⟨rfl, hE1⟩
  have hF1 := hF0.trans hE1
  replace hL := hL.ext hE1
  go_wp2_with fail
  refine (ref28_Great hL).mono ?_
  rintro e w2 ⟨rfl, rfl⟩
  go_wp2_with fail
  refine (ref28_Check hL).mono ?_
  rintro e w3 ⟨rfl, hE3⟩
  have hF3 := hF1.trans hE3
  replace hL := hL.ext hE3
  rw [h0.out]
  go_wp2_with fail
  refine (items_Find tag false hL).mono ?_
  rintro e w4 ⟨rfl, hE4⟩
  have hF4 := hF3.trans hE4
  replace hL := hL.ext hE4
  rw [e1.out.1, e1.out.2]
  go_wp2_with fail
  refine (items_Find tag true hL).mono ?_
  rintro e w5 ⟨rfl, hE5⟩
  have hF5 := hF4.trans hE5
  replace hL := hL.ext hE5
  rw [e2.out.1, e2.out.2]
  go_wp2_with fail
  go_loop [10] (fun i => ∃ k : Nat, k ≤ l.length ∧ i = .int .i64 k) (fun i => l.length - (intOf i).toNat)
  case atStart => exact ⟨0, Nat.zero_le _, rfl⟩
  case round =>
    obtain ⟨k, hk, rfl⟩ := hrel
    by_cases hlt : k < l.length
    · obtain ⟨x, hx⟩ : ∃ x, l[k]? = some x := ⟨l[k], by simp [hlt]⟩
      obtain ⟨b, off, rfl, hb, c0, c1, c2⟩ := hL.cell hx
      have hxt : (x.t != tag) = true := by have := hno.out k x hx; simp [grants] at this; simp [this]
      clear hx
      go_wp2
      go_round
      case rel => exact ⟨k + 1, by omega, by go_num⟩
      case measure => simp [intOf]; omega
    · have hkl : k = l.length := by omega
      subst hkl
      go_wp2
      go_ret
      exact ⟨rfl, hF5⟩

set_option maxRecDepth 100000 in
set_option maxHeartbeats 6400000 in
theorem itemsOrder_sn {l : List Item} {v : Value} {w : World} (tag : Int) (hl : Its w v l) (hk : okS l = true) {r : Nat} (hr : findAt l tag false = some r) (hw : findAt l tag true = none) :
    Calls Try.prog 3 #[v, .int .i64 tag] w fun e w' => e = .returned (.bool true) ∧ Ext w w' := by
  have hF0 := Ext.refl w
  have hL := hl
  obtain ⟨a, cp, rfl, hlc, hcm, -⟩ := hl.form
  unfold maxLen at hcm
  clear hl
  have h0 : Hid (chk l = 0) := Hid.mk (by simp [chk, hk])
  have hl6 : l.length ≤ 600 := by simp [okS] at hk; omega
  have hg : ¬ 610 < l.length := by omega
  have e1 : Hid (findIx l tag false = r ∧ findErr l tag false = 0) := Hid.mk (by simp [findIx, findErr, hk, hr])
  obtain ⟨xr, hxr, hgr, hup⟩ := findAt_is hr
  have hrl : r < l.length := (List.getElem?_eq_some_iff.1 hxr).1
  have hrt : (xr.t != tag) = false := by simp [grants] at hgr; simp [hgr]
  have hid_hup := Lib.hid hup; clear hup; have hup := hid_hup; clear hid_hup
  obtain ⟨b, off, rfl, hb, -⟩ := hL.at (by omega)
  have hi0 : (0 : Int) ≤ (r : Int) := by omega
  have hi1 : (r : Int) < (l.length : Int) := by omega
  have hd0 : decide ((r : Int) < 0) = false := decide_eq_false (by omega)
  have hd1 : decide ((l.length : Int) ≤ (r : Int)) = false := decide_eq_false (by omega)
  have e2 : Hid (findIx l tag true = 0 ∧ findErr l tag true = 6) := Hid.mk (by simp [findIx, findErr, hk, hw])
  have hno := Lib.hid (findAt_no hw)
  have hid_hxr := Lib.hid hxr; clear hxr; have hxr := hid_hxr; clear hid_hxr
  clear hk hr hw hgr
  go_enter Try.func3, Try.ntmps3
  go_wp2_with fail
  refine (law28_alive _).mono ?_
  rintro e w1 ⟨rfl, hE1⟩
  have hF1 := hF0.trans hE1
  replace hL := hL.ext hE1
  go_wp2_with fail
  refine (ref28_Great hL).mono ?_
  rintro e w2 ⟨rfl, rfl⟩
  go_wp2_with fail
  refine (ref28_Check hL).mono ?_
  rintro e w3 ⟨rfl, hE3⟩
  have hF3 := hF1.trans hE3
  replace hL := hL.ext hE3
  rw [h0.out]
  go_wp2_with fail
  refine (items_Find tag false hL).mono ?_
  rintro e w4 ⟨rfl, hE4⟩
  have hF4 := hF3.trans hE4
  replace hL := hL.ext hE4
  rw [e1.out.1, e1.out.2]
  go_wp2_with fail
  refine (items_Find tag true hL).mono ?_
  rintro e w5 ⟨rfl, hE5⟩
  have hF5 := hF4.trans hE5
  replace hL := hL.ext hE5
  rw [e2.out.1, e2.out.2]
  have hC := (fun h => (hL.at (a := some ⟨b, off, none⟩) h)) (by omega)
  obtain ⟨b', off', eb, -, hcs⟩ := hC
  simp only [Option.some.injEq, Addr.mk.injEq, and_true] at eb
  obtain ⟨rfl, rfl⟩ := eb
  have hid_hcs := Lib.hid hcs; clear hcs; have hcs := hid_hcs; clear hid_hcs
  obtain ⟨r0, r1, r2⟩ := hcs.out r xr hxr.out
  go_wp2_with fail
  go_loop [10] (fun i => ∃ k : Nat, k ≤ l.length ∧ i = .int .i64 k) (fun i => l.length - (intOf i).toNat)
  case atStart => exact ⟨0, Nat.zero_le _, rfl⟩
  case round =>
    obtain ⟨k, hk, rfl⟩ := hrel
    by_cases hlt : k < l.length
    · obtain ⟨x, hx⟩ : ∃ x, l[k]? = some x := ⟨l[k], by simp [hlt]⟩
      obtain ⟨c0, c1, c2⟩ := hcs.out k x hx
      by_cases hxt : x.t = tag
      · have hxt1 : (x.t != tag) = false := by simp [hxt]
        have hp4 : (x.p != 4) = false := by have := hno.out k x hx; simp [grants, hxt] at this; simp [this]
        have hkr : decide ((r : Int) < (k : Int)) = false := decide_eq_false (by intro h; have := hup.out k x (by omega) hx; simp [grants, hxt] at this)
        have hkr' : (k : Int) ≤ (r : Int) := by simpa using hkr
        clear hx hxt
        go_wp2
        go_round
        case rel => exact ⟨k + 1, by omega, by go_num⟩
        case measure => simp [intOf]; omega
      · have hxt1 : (x.t != tag) = true := by simp [hxt]
        clear hx hxt
        go_wp2
        go_round
        case rel => exact ⟨k + 1, by omega, by go_num⟩
        case measure => simp [intOf]; omega
    · have hkl : k = l.length := by omega
      subst hkl
      go_wp2
      go_ret
      exact ⟨rfl, hF5⟩

set_option maxRecDepth 100000 in
set_option maxHeartbeats 6400000 in
theorem itemsOrder_ss {l : List Item} {v : Value} {w : World} (tag : Int) (hl : Its w v l) (hk : okS l = true) {r s : Nat} (hr : findAt l tag false = some r) (hw : findAt l tag true = some s) :
    Calls Try.prog 3 #[v, .int .i64 tag] w fun e w' => e = .returned (.bool true) ∧ Ext w w' := by
  have hF0 := Ext.refl w
  have hL := hl
  obtain ⟨a, cp, rfl, hlc, hcm, -⟩ := hl.form
  unfold maxLen at hcm
  clear hl
  have h0 : Hid (chk l = 0) := Hid.mk (by simp [chk, hk])
  have hl6 : l.length ≤ 600 := by simp [okS] at hk; omega
  have hg : ¬ 610 < l.length := by omega
  have e1 : Hid (findIx l tag false = r ∧ findErr l tag false = 0) := Hid.mk (by simp [findIx, findErr, hk, hr])
  obtain ⟨xr, hxr, hgr, hup⟩ := findAt_is hr
  have hrl : r < l.length := (List.getElem?_eq_some_iff.1 hxr).1
  have hrt : (xr.t != tag) = false := by simp [grants] at hgr; simp [hgr]
  have hid_hup := Lib.hid hup; clear hup; have hup := hid_hup; clear hid_hup
  obtain ⟨b, off, rfl, hb, -⟩ := hL.at (by omega)
  have hi0 : (0 : Int) ≤ (r : Int) := by omega
  have hi1 : (r : Int) < (l.length : Int) := by omega
  have hd0 : decide ((r : Int) < 0) = false := decide_eq_false (by omega)
  have hd1 : decide ((l.length : Int) ≤ (r : Int)) = false := decide_eq_false (by omega)
  have e2 : Hid (findIx l tag true = s ∧ findErr l tag true = 0) := Hid.mk (by simp [findIx, findErr, hk, hw])
  obtain ⟨xs, hxs, hgs, hus⟩ := findAt_is hw
  have hsl : s < l.length := (List.getElem?_eq_some_iff.1 hxs).1
  have hst : (xs.t == tag) = true := by simp [grants] at hgs; simp [hgs.1]
  have hsp : (xs.p != 4) = true := by simp [grants] at hgs; simp [hgs.2]
  have hsr : decide ((r : Int) < (s : Int)) = false := decide_eq_false (by intro h; have := hup.out s xs (by omega) hxs; simp [grants] at this hgs; exact this hgs.1)
  have hsr' : (s : Int) ≤ (r : Int) := by simpa using hsr
  have hj0 : (0 : Int) ≤ (s : Int) := by omega
  have hj1 : (s : Int) < (l.length : Int) := by omega
  have hj2 : decide ((0 : Int) ≤ (s : Int)) = true := decide_eq_true (by omega)
  have hj3 : decide ((s : Int) < (l.length : Int)) = true := decide_eq_true (by omega)
  have hid_hus := Lib.hid hus; clear hus; have hus := hid_hus; clear hid_hus
  have hid_hxr := Lib.hid hxr; clear hxr; have hxr := hid_hxr; clear hid_hxr
  have hid_hxs := Lib.hid hxs; clear hxs; have hxs := hid_hxs; clear hid_hxs
  clear hk hr hw hgr hgs
  go_enter Try.func3, Try.ntmps3
  go_wp2_with fail
  refine (law28_alive _).mono ?_
  rintro e w1 ⟨rfl, hE1⟩
  have hF1 := hF0.trans hE1
  replace hL := hL.ext hE1
  go_wp2_with fail
  refine (ref28_Great hL).mono ?_
  rintro e w2 ⟨rfl, rfl⟩
  go_wp2_with fail
  refine (ref28_Check hL).mono ?_
  rintro e w3 ⟨rfl, hE3⟩
  have hF3 := hF1.trans hE3
  replace hL := hL.ext hE3
  rw [h0.out]
  go_wp2_with fail
  refine (items_Find tag false hL).mono ?_
  rintro e w4 ⟨rfl, hE4⟩
  have hF4 := hF3.trans hE4
  replace hL := hL.ext hE4
  rw [e1.out.1, e1.out.2]
  go_wp2_with fail
  refine (items_Find tag true hL).mono ?_
  rintro e w5 ⟨rfl, hE5⟩
  have hF5 := hF4.trans hE5
  replace hL := hL.ext hE5
  rw [e2.out.1, e2.out.2]
  have hC := (fun h => (hL.at (a := some ⟨b, off, none⟩) h)) (by omega)
  obtain ⟨b', off', eb, -, hcs⟩ := hC
  simp only [Option.some.injEq, Addr.mk.injEq, and_true] at eb
  obtain ⟨rfl, rfl⟩ := eb
  have hid_hcs := Lib.hid hcs; clear hcs; have hcs := hid_hcs; clear hid_hcs
  obtain ⟨r0, r1, r2⟩ := hcs.out r xr hxr.out
  obtain ⟨s0, s1, s2⟩ := hcs.out s xs hxs.out
  go_wp2_with fail
  go_loop [10] (fun i => ∃ k : Nat, k ≤ l.length ∧ i = .int .i64 k) (fun i => l.length - (intOf i).toNat)
  case atStart => exact ⟨0, Nat.zero_le _, rfl⟩
  case round =>
    obtain ⟨k, hk, rfl⟩ := hrel
    by_cases hlt : k < l.length
    · obtain ⟨x, hx⟩ : ∃ x, l[k]? = some x := ⟨l[k], by simp [hlt]⟩
      obtain ⟨c0, c1, c2⟩ := hcs.out k x hx
      by_cases hxt : x.t = tag
      · have hxt1 : (x.t != tag) = false := by simp [hxt]
        have hkr : decide ((r : Int) < (k : Int)) = false := decide_eq_false (by intro h; have := hup.out k x (by omega) hx; simp [grants, hxt] at this)
        have hkr' : (k : Int) ≤ (r : Int) := by simpa using hkr
        by_cases hp : x.p = 4
        · have hp4 : (x.p != 4) = false := by simp [hp]
          clear hx hxt hp
          go_wp2
          go_round
          case rel => exact ⟨k + 1, by omega, by go_num⟩
          case measure => simp [intOf]; omega
        · have hp4 : (x.p != 4) = true := by simp [hp]
          have hks : decide ((s : Int) < (k : Int)) = false := decide_eq_false (by intro h; have := hus.out k x (by omega) hx; simp [grants, hxt, hp] at this)
          have hks' : (k : Int) ≤ (s : Int) := by simpa using hks
          clear hx hxt hp
          go_wp2
          go_round
          case rel => exact ⟨k + 1, by omega, by go_num⟩
          case measure => simp [intOf]; omega
      · have hxt1 : (x.t != tag) = true := by simp [hxt]
        clear hx hxt
        go_wp2
        go_round
        case rel => exact ⟨k + 1, by omega, by go_num⟩
        case measure => simp [intOf]; omega
    · have hkl : k = l.length := by omega
      subst hkl
      go_wp2
      go_ret
      exact ⟨rfl, hF5⟩

theorem itemsOrder_walk {l : List Item} {v : Value} {w : World} (tag : Int) (hl : Its w v l) :
    Calls Try.prog 3 #[v, .int .i64 tag] w fun e w' => e = .returned (.bool true) ∧ Ext w w' := by
  cases hk : okS l
  · exact itemsOrder_out tag hl (.inr hk)
  · cases hr : findAt l tag false with
    | none =>
      have hw : findAt l tag true = none := by
        cases hw : findAt l tag true with
        | none => rfl
        | some s =>
          obtain ⟨x, hx, hg, _⟩ := findAt_is hw
          have := findAt_no hr s x hx
          simp [grants] at this hg
          exact absurd hg.1 this
      exact itemsOrder_nn tag hl hk hr hw
    | some r =>
      cases hw : findAt l tag true with
      | none => exact itemsOrder_sn tag hl hk hr hw
      | some s => exact itemsOrder_ss tag hl hk hr hw

set_option maxRecDepth 100000 in
theorem itemsOrder_lifted (os : Os) (started : os.Started) (H : Type) (enc : TypeId × Value → H) :
    ReturnsInHanded {} Try.checked os 3 .any (Rows.itemsOrderSpec.pre6 enc Try.prog Try.f3 Rows.itemsOrderRow.domain false) (Rows.itemsOrderSpec.post enc Try.prog Try.f3 false true false false) := by
  refine returnsInHanded_of_change (C := Try.checked) Tryown started (by kernel_rfl) Try.func3
    (ChangeSpec.witness6 (enc := enc) (C := Try.checked) false ⟨#[], #[.slice none 0 0, .int .i64 0], []⟩ 8 (by kernel_rfl) (by kernel_rfl) (by kernel_rfl) (by kernel_rfl)) ?_
  intro W base args ds gs before hval0 hW _ _
  have hval : ∀ (j : Nat) t v, Try.f3.params[j]? = some t → args[j]? = some v → Value.okWide Try.prog W .any base t v := hval0
  have hW' := hW
  obtain ⟨p, q, hA0, hV, rfl, hfz, hnd⟩ := hW
  have hA : DataW.TrodAll enc Try.prog W 0 (fun _ => true) true Try.f3.params.toList args.toList ds p := hA0
  rw [Try.params3] at hA hval
  obtain ⟨v0, vs0, d0, ds0, p0, q0, hargs, rfl, rfl, h0, r0⟩ := trodAll_cons hA
  obtain ⟨v1, vs1, d1, ds1, p1, q1, rfl, rfl, rfl, h1, r1⟩ := trodAll_cons r0
  obtain ⟨rfl, rfl, rfl⟩ := trodAll_nil r1
  obtain rfl : args = #[v0, v1] := by cases args; simp_all
  obtain ⟨x0, k0, wf0⟩ := open_items Try.underlying23 (hval 0 23 v0 rfl rfl) h0
  obtain ⟨x1, rfl, rfl, rfl, wf1⟩ := open_int Try.underlying3 (hval 1 3 v1 rfl rfl) h1
  refine (itemsOrder_walk x1 k0).mono fun e W' ⟨he, hb⟩ => ?_
  subst he
  exact ⟨_, rfl, post_law TrylaidOut (tb := 4) rfl Try.underlying4 (by kernel_rfl) rfl (fun ds hd => match ds, hd with | [a0, a1], _ => rfl) hW' hb⟩

theorem itemsOrder_holds : Rows.ItemsOrderSaid :=
  OpenClaim.holds_of_wide 3 Try.f3 rfl rfl rfl rfl rfl rfl rfl ⟨rfl, rfl, rfl, rfl, rfl⟩ rfl rfl rfl rfl rfl (by kernel_rfl) Try.func3 (by kernel_rfl)
    (of_decide_eq_true (by kernel_rfl)) (by unfold Func.isWrapper; first | (rw [if_pos (by decide +kernel)]; kernel_rfl) | (rw [if_neg (by decide +kernel)]; exact ⟨rfl, rfl⟩))
    (fun os started H enc _ => itemsOrder_lifted os started H enc)

end Go.Proofs.Ytifigkhahabpfaa
