/- The statement PhasesOld, as the card: for every stack and tags the call returns true; perms holds what its initialiser lays. No other condition. -/
import Derived.Test.YtoobdejbcgkfdaaDoorLaw32C
import Derived.Test.YtoobdejbcgkfdaaDoorLaw32D
import Derived.Test.YtoobdejbcgkfdaaDoorDoor
import Derived.Test.YtoobdejbcgkfdaaDoorReadI
namespace Go.Proofs.YtoobdejbcgkfdaaDoor
set_option maxRecDepth 100000
open Go.ChangeShapes Go.WideShapes Go.ChangeAt Go.RowKit


set_option maxRecDepth 100000 in
set_option maxHeartbeats 3200000 in
theorem phasesOld_walk {l : List Item} {v : Value} {w : World} (hp : Perms w) (old tag : Int) (hl : Its w v l) :
    Calls Tryd.prog 8 #[v, .int .i64 old, .int .i64 tag] w fun e w' => e = .returned (.bool true) ∧ Ext w w' := by
  have hF0 := Ext.refl w
  have hL := hl; have hP := hp
  obtain ⟨a, cp, rfl, hlc, hcm, -⟩ := hl.form
  clear hl hp
  by_cases hb : 610 < l.length
  · have hd : Hid (decide (610 < l.length) = true) := Hid.mk (decide_eq_true hb)
    go_enter Tryd.func8, Tryd.ntmps8
    go_wp2_with fail
    refine (law32_alive hP).mono ?_
    rintro e w1 ⟨rfl, hE1⟩
    have hF1 := hF0.trans hE1
    replace hL := hL.ext hE1
    replace hP := hP.ext hE1
    go_wp2_with fail
    refine (ref28_Great hL).mono ?_
    rintro e w2 ⟨rfl, rfl⟩
    rw [hd.out]
    go_wp2
    go_ret
    exact ⟨rfl, hF1⟩
  · have hd : Hid (decide (610 < l.length) = false) := Hid.mk (decide_eq_false hb)
    have hs : l.length ≤ 1000000 := by omega
    clear hb
    cases hok : okS l
    · have hc : Hid (chk l = 8) := Hid.mk (by simp [chk, hok])
      clear hok
      go_enter Tryd.func8, Tryd.ntmps8
      go_wp2_with fail
      refine (law32_alive hP).mono ?_
      rintro e w1 ⟨rfl, hE1⟩
      have hF1 := hF0.trans hE1
      replace hL := hL.ext hE1
      replace hP := hP.ext hE1
      go_wp2_with fail
      refine (ref28_Great hL).mono ?_
      rintro e w2 ⟨rfl, rfl⟩
      rw [hd.out]
      go_wp2_with fail
      refine (ref28_Check hL).mono ?_
      rintro e w3 ⟨rfl, hE3⟩
      have hF3 := hF1.trans hE3
      replace hL := hL.ext hE3
      replace hP := hP.ext hE3
      rw [hc.out]
      go_wp2
      go_ret
      exact ⟨rfl, hF3⟩
    · have hc : Hid (chk l = 0) := Hid.mk (by simp [chk, hok])
      replace hok := Lib.hid hok
      rcases findAt_cases l tag false with ⟨i0, hno⟩ | hno
      · have hat : Hid (idxOf (findAt l tag false) = (i0 : Int)) := Hid.mk (by rw [hno]; rfl)
        have hat0 : decide ((0 : Int) ≤ (i0 : Int)) = true := decide_eq_true (by omega)
        clear hno
        go_enter Tryd.func8, Tryd.ntmps8
        go_wp2_with fail
        refine (law32_alive hP).mono ?_
        rintro e w1 ⟨rfl, hE1⟩
        have hF1 := hF0.trans hE1
        replace hL := hL.ext hE1
        replace hP := hP.ext hE1
        go_wp2_with fail
        refine (ref28_Great hL).mono ?_
        rintro e w2 ⟨rfl, rfl⟩
        rw [hd.out]
        go_wp2_with fail
        refine (ref28_Check hL).mono ?_
        rintro e w3 ⟨rfl, hE3⟩
        have hF3 := hF1.trans hE3
        replace hL := hL.ext hE3
        replace hP := hP.ext hE3
        rw [hc.out]
        go_wp2_with fail
        refine (ref28_At tag false hL).mono ?_
        rintro e w4 ⟨rfl, rfl⟩
        rw [hat.out]
        go_wp2
        go_ret
        exact ⟨rfl, hF3⟩
      · have hat : Hid (idxOf (findAt l tag false) = -1) := Hid.mk (by rw [hno]; rfl)
        replace hno := Lib.hid hno
        by_cases hne : old = tag
        · have hne0 : (old == tag) = true := beq_iff_eq.2 hne
          clear hne
          go_enter Tryd.func8, Tryd.ntmps8
          go_wp2_with fail
          refine (law32_alive hP).mono ?_
          rintro e w1 ⟨rfl, hE1⟩
          have hF1 := hF0.trans hE1
          replace hL := hL.ext hE1
          replace hP := hP.ext hE1
          go_wp2_with fail
          refine (ref28_Great hL).mono ?_
          rintro e w2 ⟨rfl, rfl⟩
          rw [hd.out]
          go_wp2_with fail
          refine (ref28_Check hL).mono ?_
          rintro e w3 ⟨rfl, hE3⟩
          have hF3 := hF1.trans hE3
          replace hL := hL.ext hE3
          replace hP := hP.ext hE3
          rw [hc.out]
          go_wp2_with fail
          refine (ref28_At tag false hL).mono ?_
          rintro e w4 ⟨rfl, rfl⟩
          rw [hat.out]
          go_wp2
          go_ret
          exact ⟨rfl, hF3⟩
        · have hne0 : (old == tag) = false := beq_eq_false_iff_ne.2 hne
          replace hne := Lib.hid hne
          obtain ⟨⟨T, why, er⟩, hA⟩ : ∃ x, tagR l 3 old ⟨0, tag, 0⟩ [] = x := ⟨_, rfl⟩
          by_cases hn : er = 0 ∧ why = 0
          · obtain ⟨rfl, rfl⟩ := hn
            obtain ⟨U, hM, hph, hO⟩ := old_law hno.out hne.out hA
            obtain ⟨W, x, hW, hx⟩ := hO.write hne.out
            have hph1 : Hid (((phaseR U tag).2 == 0 && (phaseR U tag).1 == 1) = true) := Hid.mk (by rw [hph]; rfl)
            replace hA := Lib.hid hA
            replace hM := Lib.hid hM
            replace hW := Lib.hid hW
            have hxc : ((x != 0) = true) ∨ (x = 0 ∧ Hid (((phaseR W tag).2 == 0 && (phaseR W tag).1 == 0) = true)) := by
              rcases hx with h | ⟨h, h2⟩
              · exact .inl (bne_iff_ne.2 h)
              · exact .inr ⟨h, Hid.mk (by rw [h2]; rfl)⟩
            clear hx hph hO
            rcases hxc with z1 | ⟨rfl, hpw⟩
            ·
              go_enter Tryd.func8, Tryd.ntmps8
              go_wp2_with fail
              refine (law32_alive hP).mono ?_
              rintro e w1 ⟨rfl, hE1⟩
              have hF1 := hF0.trans hE1
              replace hL := hL.ext hE1
              replace hP := hP.ext hE1
              go_wp2_with fail
              refine (ref28_Great hL).mono ?_
              rintro e w2 ⟨rfl, rfl⟩
              rw [hd.out]
              go_wp2_with fail
              refine (ref28_Check hL).mono ?_
              rintro e w3 ⟨rfl, hE3⟩
              have hF3 := hF1.trans hE3
              replace hL := hL.ext hE3
              replace hP := hP.ext hE3
              rw [hc.out]
              go_wp2_with fail
              refine (ref28_At tag false hL).mono ?_
              rintro e w4 ⟨rfl, rfl⟩
              rw [hat.out]
              go_wp2_with fail
              refine (phases_Reserve hP old tag hL (Nts.nil _)).mono ?_
              rintro e w5 ⟨vt, rfl, ot, hE5⟩
              have hF5 := hF3.trans hE5
              replace hL := hL.ext hE5
              replace hP := hP.ext hE5
              have t : Its w5 vt T := by rw [hA.out] at ot; exact OwnI.its ot
              rw [hA.out]
              clear ot
              obtain ⟨at_, ct, rfl, hlt_, hmt_, -⟩ := t.form
              go_wp2_with fail
              refine (phases_Many (l := T) (tags := [old, tag, old]) (run := []) (t.ext (by repeat (first | exact Ext.refl _ | apply Ext.alloc | apply Ext.drew))) (by (repeat (first | exact Nts.nil _ | exact Nts.litl _ _ _ _ _ (by simp) rfl (by simp [maxLen]) rfl | refine Nts.ext ?_ (Ext.refl _).drew | refine Nts.ext ?_ ((Ext.refl _).alloc _) | refine Nts.ext ?_ (by assumption)))) (by (repeat (first | exact Nts.nil _ | exact Nts.litl _ _ _ _ _ (by simp) rfl (by simp [maxLen]) rfl | refine Nts.ext ?_ (Ext.refl _).drew | refine Nts.ext ?_ ((Ext.refl _).alloc _) | refine Nts.ext ?_ (by assumption))))).mono ?_
              rintro e wa ⟨vuu, rfl, ouu, hZa⟩
              have hEa : Ext w5 wa := Ext.trans (by repeat (first | exact Ext.refl _ | apply Ext.alloc | apply Ext.drew)) hZa
              have uu : Its wa vuu U := by rw [hM.out] at ouu; exact OwnI.its ouu
              rw [hM.out]
              clear ouu
              obtain ⟨auu, cuu, rfl, -⟩ := uu.form
              replace t := t.ext hEa
              have hFa := hF5.trans hEa
              go_wp2_with fail
              refine (law32_is tag 1 uu).mono ?_
              rintro e w40 ⟨rfl, hE40⟩
              have hF40 := hFa.trans hE40
              replace t := t.ext hE40
              rw [hph1.out]
              go_wp2_with fail
              refine (guard_WriteO old t (Nts.nil _)).mono ?_
              rintro e w41 ⟨vww, rfl, oww, hE41⟩
              have hF41 := hF40.trans hE41
              replace t := t.ext hE41
              have ww : Its w41 vww W := by rw [hW.out] at oww; exact OwnI.its oww
              rw [hW.out]
              clear oww
              obtain ⟨aww, cww, rfl, -⟩ := ww.form
              go_wp2
              go_ret
              exact ⟨rfl, hF41⟩
            ·
              go_enter Tryd.func8, Tryd.ntmps8
              go_wp2_with fail
              refine (law32_alive hP).mono ?_
              rintro e w1 ⟨rfl, hE1⟩
              have hF1 := hF0.trans hE1
              replace hL := hL.ext hE1
              replace hP := hP.ext hE1
              go_wp2_with fail
              refine (ref28_Great hL).mono ?_
              rintro e w2 ⟨rfl, rfl⟩
              rw [hd.out]
              go_wp2_with fail
              refine (ref28_Check hL).mono ?_
              rintro e w3 ⟨rfl, hE3⟩
              have hF3 := hF1.trans hE3
              replace hL := hL.ext hE3
              replace hP := hP.ext hE3
              rw [hc.out]
              go_wp2_with fail
              refine (ref28_At tag false hL).mono ?_
              rintro e w4 ⟨rfl, rfl⟩
              rw [hat.out]
              go_wp2_with fail
              refine (phases_Reserve hP old tag hL (Nts.nil _)).mono ?_
              rintro e w5 ⟨vt, rfl, ot, hE5⟩
              have hF5 := hF3.trans hE5
              replace hL := hL.ext hE5
              replace hP := hP.ext hE5
              have t : Its w5 vt T := by rw [hA.out] at ot; exact OwnI.its ot
              rw [hA.out]
              clear ot
              obtain ⟨at_, ct, rfl, hlt_, hmt_, -⟩ := t.form
              go_wp2_with fail
              refine (phases_Many (l := T) (tags := [old, tag, old]) (run := []) (t.ext (by repeat (first | exact Ext.refl _ | apply Ext.alloc | apply Ext.drew))) (by (repeat (first | exact Nts.nil _ | exact Nts.litl _ _ _ _ _ (by simp) rfl (by simp [maxLen]) rfl | refine Nts.ext ?_ (Ext.refl _).drew | refine Nts.ext ?_ ((Ext.refl _).alloc _) | refine Nts.ext ?_ (by assumption)))) (by (repeat (first | exact Nts.nil _ | exact Nts.litl _ _ _ _ _ (by simp) rfl (by simp [maxLen]) rfl | refine Nts.ext ?_ (Ext.refl _).drew | refine Nts.ext ?_ ((Ext.refl _).alloc _) | refine Nts.ext ?_ (by assumption))))).mono ?_
              rintro e wa ⟨vuu, rfl, ouu, hZa⟩
              have hEa : Ext w5 wa := Ext.trans (by repeat (first | exact Ext.refl _ | apply Ext.alloc | apply Ext.drew)) hZa
              have uu : Its wa vuu U := by rw [hM.out] at ouu; exact OwnI.its ouu
              rw [hM.out]
              clear ouu
              obtain ⟨auu, cuu, rfl, -⟩ := uu.form
              replace t := t.ext hEa
              have hFa := hF5.trans hEa
              go_wp2_with fail
              refine (law32_is tag 1 uu).mono ?_
              rintro e w40 ⟨rfl, hE40⟩
              have hF40 := hFa.trans hE40
              replace t := t.ext hE40
              rw [hph1.out]
              go_wp2_with fail
              refine (guard_WriteO old t (Nts.nil _)).mono ?_
              rintro e w41 ⟨vww, rfl, oww, hE41⟩
              have hF41 := hF40.trans hE41
              replace t := t.ext hE41
              have ww : Its w41 vww W := by rw [hW.out] at oww; exact OwnI.its oww
              rw [hW.out]
              clear oww
              obtain ⟨aww, cww, rfl, -⟩ := ww.form
              go_wp2_with fail
              refine (law32_is tag 0 ww).mono ?_
              rintro e w42 ⟨rfl, hE42⟩
              have hF42 := hF41.trans hE42
              replace t := t.ext hE42
              rw [hpw.out]
              go_wp2
              go_ret
              exact ⟨rfl, hF42⟩
          · have hq : (er == 0) = false ∨ (er = 0 ∧ (why == 0) = false) := by
              by_cases h : er = 0
              · exact .inr ⟨h, beq_eq_false_iff_ne.2 (fun h2 => hn ⟨h, h2⟩)⟩
              · exact .inl (beq_eq_false_iff_ne.2 h)
            replace hA := Lib.hid hA
            clear hn
            rcases hq with z1 | ⟨rfl, z1⟩
            all_goals
              go_enter Tryd.func8, Tryd.ntmps8
              go_wp2_with fail
              refine (law32_alive hP).mono ?_
              rintro e w1 ⟨rfl, hE1⟩
              have hF1 := hF0.trans hE1
              replace hL := hL.ext hE1
              replace hP := hP.ext hE1
              go_wp2_with fail
              refine (ref28_Great hL).mono ?_
              rintro e w2 ⟨rfl, rfl⟩
              rw [hd.out]
              go_wp2_with fail
              refine (ref28_Check hL).mono ?_
              rintro e w3 ⟨rfl, hE3⟩
              have hF3 := hF1.trans hE3
              replace hL := hL.ext hE3
              replace hP := hP.ext hE3
              rw [hc.out]
              go_wp2_with fail
              refine (ref28_At tag false hL).mono ?_
              rintro e w4 ⟨rfl, rfl⟩
              rw [hat.out]
              go_wp2_with fail
              refine (phases_Reserve hP old tag hL (Nts.nil _)).mono ?_
              rintro e w5 ⟨vt, rfl, ot, hE5⟩
              have hF5 := hF3.trans hE5
              replace hL := hL.ext hE5
              replace hP := hP.ext hE5
              have t : Its w5 vt T := by rw [hA.out] at ot; exact OwnI.its ot
              rw [hA.out]
              clear ot
              obtain ⟨at_, ct, rfl, hlt_, hmt_, -⟩ := t.form
              go_wp2
              go_ret
              exact ⟨rfl, hF5⟩

set_option maxRecDepth 100000 in
theorem phasesOld_contract (H : Type) (enc : TypeId × Value → H) (W : World) (base : Nat) (args : Array Value) (ds gs : List (DataW H)) (before : List MemPlace)
    (hval0 : ∀ (j : Nat) t v, Tryd.f8.params[j]? = some t → args[j]? = some v → Value.okWide Tryd.prog W .any base t v)
    (hW : DataW.Whole enc Tryd.prog Tryd.f8.params.toList Rows.phasesOldSpec.vars false W args.toList ds gs before) (hL : laidMetH Tryd.prog Rows.phasesOldRow.laid W) :
    Calls Tryd.prog 8 args W fun e W' => ∃ v, e = .returned v ∧ Rows.phasesOldSpec.post enc Tryd.prog Tryd.f8 false true false false W args v W' := by
  have hval : ∀ (j : Nat) t v, Tryd.f8.params[j]? = some t → args[j]? = some v → Value.okWide Tryd.prog W .any base t v := hval0
  have hW' := hW
  obtain ⟨p, q, hA0, hV, rfl, hfz, hnd⟩ := hW
  have hA : DataW.TrodAll enc Tryd.prog W 0 (fun _ => true) true Tryd.f8.params.toList args.toList ds p := hA0
  rw [Tryd.params8] at hA hval
  obtain ⟨v0, vs0, d0, ds0, p0, q0, hargs, rfl, rfl, h0, r0⟩ := trodAll_cons hA
  obtain ⟨v1, vs1, d1, ds1, p1, q1, rfl, rfl, rfl, h1, r1⟩ := trodAll_cons r0
  obtain ⟨v2, vs2, d2, ds2, p2, q2, rfl, rfl, rfl, h2, r2⟩ := trodAll_cons r1
  obtain ⟨rfl, rfl, rfl⟩ := trodAll_nil r2
  obtain rfl : args = #[v0, v1, v2] := by cases args; simp_all
  obtain ⟨x0, k0, wf0⟩ := open_items Tryd.underlying31 (hval 0 31 v0 rfl rfl) h0
  obtain ⟨x1, rfl, rfl, rfl, wf1⟩ := open_int Tryd.underlying3 (hval 1 3 v1 rfl rfl) h1
  obtain ⟨x2, rfl, rfl, rfl, wf2⟩ := open_int Tryd.underlying3 (hval 2 3 v2 rfl rfl) h2
  refine (phasesOld_walk (perms_of_laid hL) x1 x2 k0).mono fun e W' ⟨he, hb⟩ => ?_
  subst he
  exact ⟨_, rfl, post_law TrydlaidOut (tb := 4) rfl Tryd.underlying4 (by kernel_rfl) rfl (fun ds hd => match ds, hd with | [a0, a1, a2], _ => rfl) hW' hb⟩
theorem phasesOld_met (os : Os) : laidMet Tryd.prog Rows.phasesOldRow.laid ((doorWorld os).forCall (fun _ _ => 0) ⟨#[], #[.slice none 0 0, .int .i64 0, .int .i64 0], []⟩).memory :=
  laidMet_of_run' 8 (by kernel_rfl) (by kernel_rfl)
theorem phasesOld_reads (os : Os) {H : Type} (enc : TypeId × Value → H) : ∃ places, DataW.whole enc Tryd.prog ((doorWorld os).forCall (fun _ _ => 0) ⟨#[], #[.slice none 0 0, .int .i64 0, .int .i64 0], []⟩).memory Tryd.f8.params.toList Rows.phasesOldSpec.vars false (#[.slice none 0 0, .int .i64 0, .int .i64 0] : Array Value).toList 8 = some ([.nil, .lit (.int .i64 0), .lit (.int .i64 0)], [], places) :=
  ⟨[], by kernel_rfl⟩
set_option maxRecDepth 100000 in
theorem phasesOld_lifted (os : Os) (started : os.Started) (H : Type) (enc : TypeId × Value → H) (F : Stop.Interp) :
    ReturnsInHanded {} Tryd.checked os 8 .any ((OpenSpec.ofChange Rows.phasesOldSpec).preRow enc Tryd.prog Tryd.f8 Rows.phasesOldRow.domain false Rows.phasesOldRow.laid) (((OpenSpec.ofChange Rows.phasesOldSpec).at F).post enc Tryd.prog Tryd.f8 false true false false) := by
  obtain ⟨places, hx⟩ := phasesOld_reads os enc
  refine returnsInHanded_of_row (C := Tryd.checked) (s := OpenSpec.ofChange Rows.phasesOldSpec) Trydown started (by kernel_rfl) Tryd.func8
    (witness_row_at (enc := enc) (C := Tryd.checked) false (doorWorld os) #[.slice none 0 0, .int .i64 0, .int .i64 0] rfl (by kernel_rfl) (by kernel_rfl) (by kernel_rfl)
      (OpenSpec.preRow_of_cond 8 hx (by kernel_rfl) (fun k hk => by cases hk) (by kernel_rfl) (phasesOld_met os))) ?_
  intro W base args ds gs before hval hW _ _ _ hL _ _
  exact phasesOld_contract H enc W base args ds gs before hval hW hL
theorem phasesOld_said : Rows.PhasesOldSaid :=
  OpenClaim.holds_of_cond 8 Tryd.f8 rfl rfl rfl rfl rfl rfl rfl ⟨rfl, rfl, rfl, rfl, rfl⟩ rfl rfl rfl rfl rfl (by kernel_rfl) Tryd.func8 (by kernel_rfl)
    (of_decide_eq_true (by kernel_rfl)) (by unfold Func.isWrapper; first | (rw [if_pos (by decide +kernel)]; kernel_rfl) | (rw [if_neg (by decide +kernel)]; exact ⟨rfl, rfl⟩))
    (fun os started H enc _ F => by rw [OpenClaim.pre_eq_preRow]; exact phasesOld_lifted os started H enc F)
theorem phasesOld_plain (f : FuncId) (fn : Func) (hf : Tryd.pinned.checked.prog.funcNamed "pawnshop/pawnshoplaw32.PhasesOld" = some f) (hfn : Tryd.pinned.checked.prog.funcs[f]? = some fn) :
    false = Tryd.pinned.checked.prog.looks [] ∧ ∀ (j : Nat) t, fn.params[j]? = some t → Tryd.pinned.checked.prog.wantsStandIn t = false := by
  obtain rfl : f = 8 := Option.some.inj ((show Tryd.prog.funcNamed "pawnshop/pawnshoplaw32.PhasesOld" = some 8 by kernel_rfl).symm.trans hf) |>.symm
  obtain rfl : fn = Tryd.f8 := (Option.some.inj (Tryd.func8.symm.trans hfn)).symm
  refine ⟨by kernel_rfl, fun j t ht => ?_⟩
  have hm : t ∈ Tryd.f8.params.toList := by simpa using Array.mem_of_getElem? ht
  have hall : (Tryd.f8.params.toList.all fun u => !Tryd.prog.wantsStandIn u) = true := by kernel_rfl
  exact (show Tryd.prog.wantsStandIn t = false by simpa using List.all_eq_true.1 hall t hm)
theorem phasesOld_card : Rows.PhasesOldCardSaid :=
  Claim7.holds_tied_plain_at .later [] _ _ _ _ phasesOld_said (fun _ h => by cases h) (by kernel_rfl) (fun _ h => by cases h) phasesOld_row_tie rfl ⟨rfl, rfl⟩ (by kernel_rfl) rfl phasesOld_plain (by kernel_rfl)

end Go.Proofs.YtoobdejbcgkfdaaDoor
