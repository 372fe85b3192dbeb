/- The statement PhasesMany, as the card: for every stack, list of tags and list of calls the call returns true; perms holds what its initialiser lays. No other condition. -/
import Derived.Test.YtoobdejbcgkfdaaDoorLaw32C
import Derived.Test.YtoobdejbcgkfdaaDoorDoor
import Derived.Test.YtoobdejbcgkfdaaDoorReadI
namespace Go.Proofs.YtoobdejbcgkfdaaDoor
set_option maxRecDepth 100000
open Go.ChangeShapes Go.WideShapes Go.ChangeAt Go.RowKit


set_option maxRecDepth 100000 in
set_option maxHeartbeats 3200000 in
theorem phasesMany_walk {l : List Item} {tags run : List Int} {v g r : Value} {w : World} (hp : Perms w) (hl : Its w v l) (ht : Nts w g tags) (hr : Nts w r run) :
    Calls Tryd.prog 9 #[v, g, r] w fun e w' => e = .returned (.bool true) ∧ Ext w w' := by
  have hF0 := Ext.refl w
  have hL := hl; have hR := hr; have hP := hp; have hT := ht
  obtain ⟨a, cp, rfl, hlc, hcm, -⟩ := hl.form
  obtain ⟨a2, cp2, rfl, hlc2, hcm2, -⟩ := hr.form
  obtain ⟨a3, cp3, rfl, hlc3, hcm3, -⟩ := ht.form
  clear hl hp hr ht
  by_cases hb : 610 < l.length
  · have hd : Hid (decide (610 < l.length) = true) := Hid.mk (decide_eq_true hb)
    go_enter Tryd.func9, Tryd.ntmps9
    go_wp2_with fail
    refine (law32_alive hP).mono ?_
    rintro e w1 ⟨rfl, hE1⟩
    have hF1 := hF0.trans hE1
    replace hL := hL.ext hE1
    replace hR := hR.ext hE1
    replace hP := hP.ext hE1
    replace hT := hT.ext hE1
    go_wp2_with fail
    refine (ref28_Great hL).mono ?_
    rintro e w2 ⟨rfl, rfl⟩
    rw [hd.out]
    go_wp2
    go_ret
    exact ⟨rfl, hF1⟩
  · have hd : Hid (decide (610 < l.length) = false) := Hid.mk (decide_eq_false hb)
    have hs : l.length ≤ 1000000 := by omega
    clear hb
    cases hok : okS l
    · have hc : Hid (chk l = 8) := Hid.mk (by simp [chk, hok])
      clear hok
      go_enter Tryd.func9, Tryd.ntmps9
      go_wp2_with fail
      refine (law32_alive hP).mono ?_
      rintro e w1 ⟨rfl, hE1⟩
      have hF1 := hF0.trans hE1
      replace hL := hL.ext hE1
      replace hR := hR.ext hE1
      replace hP := hP.ext hE1
      replace hT := hT.ext hE1
      go_wp2_with fail
      refine (ref28_Great hL).mono ?_
      rintro e w2 ⟨rfl, rfl⟩
      rw [hd.out]
      go_wp2_with fail
      refine (ref28_Check hL).mono ?_
      rintro e w3 ⟨rfl, hE3⟩
      have hF3 := hF1.trans hE3
      replace hL := hL.ext hE3
      replace hR := hR.ext hE3
      replace hP := hP.ext hE3
      replace hT := hT.ext hE3
      rw [hc.out]
      go_wp2
      go_ret
      exact ⟨rfl, hF3⟩
    · have hc : Hid (chk l = 0) := Hid.mk (by simp [chk, hok])
      replace hok := Lib.hid hok
      by_cases h5 : 30 < tags.length
      · have q1 : decide ((30 : Int) < (tags.length : Int)) = true := decide_eq_true (by omega)
        go_enter Tryd.func9, Tryd.ntmps9
        go_wp2_with fail
        refine (law32_alive hP).mono ?_
        rintro e w1 ⟨rfl, hE1⟩
        have hF1 := hF0.trans hE1
        replace hL := hL.ext hE1
        replace hR := hR.ext hE1
        replace hP := hP.ext hE1
        replace hT := hT.ext hE1
        go_wp2_with fail
        refine (ref28_Great hL).mono ?_
        rintro e w2 ⟨rfl, rfl⟩
        rw [hd.out]
        go_wp2_with fail
        refine (ref28_Check hL).mono ?_
        rintro e w3 ⟨rfl, hE3⟩
        have hF3 := hF1.trans hE3
        replace hL := hL.ext hE3
        replace hR := hR.ext hE3
        replace hP := hP.ext hE3
        replace hT := hT.ext hE3
        rw [hc.out]
        go_wp2
        go_ret
        exact ⟨rfl, hF3⟩
      · have q1 : decide ((30 : Int) < (tags.length : Int)) = false := decide_eq_false (by omega)
        have q1n : tags.length ≤ 30 := by omega
        clear h5
        by_cases h5 : 50 < run.length
        · have q2 : decide ((50 : Int) < (run.length : Int)) = true := decide_eq_true (by omega)
          go_enter Tryd.func9, Tryd.ntmps9
          go_wp2_with fail
          refine (law32_alive hP).mono ?_
          rintro e w1 ⟨rfl, hE1⟩
          have hF1 := hF0.trans hE1
          replace hL := hL.ext hE1
          replace hR := hR.ext hE1
          replace hP := hP.ext hE1
          replace hT := hT.ext hE1
          go_wp2_with fail
          refine (ref28_Great hL).mono ?_
          rintro e w2 ⟨rfl, rfl⟩
          rw [hd.out]
          go_wp2_with fail
          refine (ref28_Check hL).mono ?_
          rintro e w3 ⟨rfl, hE3⟩
          have hF3 := hF1.trans hE3
          replace hL := hL.ext hE3
          replace hR := hR.ext hE3
          replace hP := hP.ext hE3
          replace hT := hT.ext hE3
          rw [hc.out]
          go_wp2
          go_ret
          exact ⟨rfl, hF3⟩
        · have q2 : decide ((50 : Int) < (run.length : Int)) = false := decide_eq_false (by omega)
          have q2n : run.length ≤ 50 := by omega
          clear h5
          cases hor : okR run
          · have hr : Hid (runErr run = 8) := Hid.mk (runErr_bad hor)
            clear hor
            go_enter Tryd.func9, Tryd.ntmps9
            go_wp2_with fail
            refine (law32_alive hP).mono ?_
            rintro e w1 ⟨rfl, hE1⟩
            have hF1 := hF0.trans hE1
            replace hL := hL.ext hE1
            replace hR := hR.ext hE1
            replace hP := hP.ext hE1
            replace hT := hT.ext hE1
            go_wp2_with fail
            refine (ref28_Great hL).mono ?_
            rintro e w2 ⟨rfl, rfl⟩
            rw [hd.out]
            go_wp2_with fail
            refine (ref28_Check hL).mono ?_
            rintro e w3 ⟨rfl, hE3⟩
            have hF3 := hF1.trans hE3
            replace hL := hL.ext hE3
            replace hR := hR.ext hE3
            replace hP := hP.ext hE3
            replace hT := hT.ext hE3
            rw [hc.out]
            go_wp2_with fail
            refine (ref31_Check hR).mono ?_
            rintro e w4 ⟨rfl, rfl⟩
            rw [hr.out]
            go_wp2
            go_ret
            exact ⟨rfl, hF3⟩
          · have hr : Hid (runErr run = 0) := Hid.mk (runErr_ok hor)
            replace hor := Lib.hid hor
            obtain ⟨⟨A1, A2, A3⟩, hA⟩ : ∃ x, readsR run l tags = x := ⟨_, rfl⟩
            have hM : Hid (manyR l tags run = (A1, A2, A3, 0)) := Hid.mk (by rw [manyR_ok hor.out hok.out (by omega), hA])
            have hAr := reads_ok hor.out tags l hok.out
            rw [hA] at hAr
            replace hAr := Lib.hid hAr
            replace hA := Lib.hid hA
            go_enter Tryd.func9, Tryd.ntmps9
            go_wp2_with fail
            refine (law32_alive hP).mono ?_
            rintro e w1 ⟨rfl, hE1⟩
            have hF1 := hF0.trans hE1
            replace hL := hL.ext hE1
            replace hR := hR.ext hE1
            replace hP := hP.ext hE1
            replace hT := hT.ext hE1
            go_wp2_with fail
            refine (ref28_Great hL).mono ?_
            rintro e w2 ⟨rfl, rfl⟩
            rw [hd.out]
            go_wp2_with fail
            refine (ref28_Check hL).mono ?_
            rintro e w3 ⟨rfl, hE3⟩
            have hF3 := hF1.trans hE3
            replace hL := hL.ext hE3
            replace hR := hR.ext hE3
            replace hP := hP.ext hE3
            replace hT := hT.ext hE3
            rw [hc.out]
            go_wp2_with fail
            refine (ref31_Check hR).mono ?_
            rintro e w4 ⟨rfl, rfl⟩
            rw [hr.out]
            go_wp2_with fail
            refine (phases_Many hL hT hR).mono ?_
            rintro e w5 ⟨vma, rfl, oma, hE5⟩
            have hF5 := hF3.trans hE5
            replace hL := hL.ext hE5
            replace hR := hR.ext hE5
            replace hP := hP.ext hE5
            replace hT := hT.ext hE5
            have ma : Its w5 vma A1 := by rw [hM.out] at oma; exact OwnI.its oma
            rw [hM.out]
            clear oma
            obtain ⟨ama, cma, rfl, hlma, hmma, -⟩ := ma.form
            go_wp2_with fail
            refine (ref28_Twin hL hs).mono ?_
            rintro e w6 ⟨vtw, rfl, otw, hE6⟩
            have hF6 := hF5.trans hE6
            replace hL := hL.ext hE6
            replace hR := hR.ext hE6
            replace hP := hP.ext hE6
            replace hT := hT.ext hE6
            replace ma := ma.ext hE6
            have htw : OwnI w6 0 vtw l := Own.mono otw (Nat.zero_le _)
            clear otw
            obtain ⟨atw, ctw, rfl, -⟩ := htw.its.form
            go_wp2
            go_loopw [12, 13] (fun sv iv wr => ∃ (i : Nat) (lc : List Item), i ≤ tags.length ∧ iv = .int .i64 i ∧ OwnI wr 0 sv lc ∧ okS lc = true ∧ Ext w6 wr ∧ Hid (readsR run l tags = shiftR i (readsR run lc (tags.drop i)))) (fun _ iv _ => tags.length - (intOf iv).toNat)
            case atStart => exact ⟨0, l, Nat.zero_le _, rfl, htw, hok.out, Ext.refl _, Hid.mk (by rw [List.drop_zero, shiftR_zero])⟩
            case round =>
              obtain ⟨i, lc, hi, rfl, hO, hlo, hX, hrd⟩ := hrel
              replace hlo := Lib.hid hlo
              by_cases hlt : i < tags.length
              · obtain ⟨t, htg⟩ : ∃ t, tags[i]? = some t := ⟨tags[i], by simp [hlt]⟩
                obtain ⟨b0, o0, rfl, hb0, c0⟩ := (hT.ext hX).cell htg
                obtain ⟨⟨N, why, er⟩, hu⟩ : ∃ x, useR lc t false run = x := ⟨_, rfl⟩
                have hue := useR_err (tag := t) (write := false) hor.out hlo.out
                have huo := useR_ok (tag := t) (write := false) hor.out hlo.out
                rw [hu] at hue huo
                obtain ⟨he0, hw0⟩ := hue
                simp only at he0 hw0 huo
                subst he0
                replace huo := Lib.hid huo
                by_cases hw : why = 0
                · subst hw
                  have hst : Hid (shiftR i (readsR run lc (tags.drop i)) = shiftR (i + 1) (readsR run N (tags.drop (i + 1)))) := Hid.mk (by
                    have h := readsR_step (run := run) (l := lc) htg (by rw [hu])
                    rw [hu] at h
                    exact h)
                  have hag := Lib.hid (read_again hor.out hlo.out hu)
                  replace hu := Lib.hid hu
                  clear htg hb0 hw0
                  go_wp2_with fail
                  refine (guard_ReadO t hO.its (hR.ext hX)).mono ?_
                  rintro e wa ⟨v1, rfl, h1, hEa⟩
                  rw [hu.out] at h1 ⊢
                  obtain ⟨b1, d1, rfl, -⟩ := h1.its.form
                  have c0 := hEa.cell c0
                  have h1' := h1.mono (Nat.zero_le _)
                  clear h1
                  go_wp2_with fail
                  refine (guard_ReadO t h1'.its ((hR.ext hX).ext hEa)).mono ?_
                  rintro e wb ⟨v2, rfl, h2, hEb⟩
                  rw [hag.out] at h2 ⊢
                  obtain ⟨b2, d2, rfl, -⟩ := h2.its.form
                  go_wp2_with fail
                  refine (ref28_Same_yes h2.its (h1'.its.ext hEb)).mono ?_
                  rintro e wc ⟨rfl, hEc⟩
                  have hXc := ((hX.trans hEa).trans hEb).trans hEc
                  have h1c := ((h1'.ext hEb).ext hEc)
                  go_wp2
                  go_roundw
                  case rel => exact ⟨i + 1, N, by omega, by go_num, h1c, huo.out, hXc, Hid.mk (hrd.out.trans hst.out)⟩
                  case measure => simp [intOf]; omega
                · have hst : A1 = [] ∧ A2 = (i : Int) ∧ A3 = why := by
                    have h := readsR_stop (run := run) (l := lc) htg (by rw [hu]; exact hw)
                    rw [hu] at h
                    have h2 := hrd.out
                    rw [h, hA.out] at h2
                    simpa using h2
                  obtain ⟨rfl, rfl, rfl⟩ := hst
                  have z0 : (A3 == 0) = false := beq_eq_false_iff_ne.2 hw
                  replace hu := Lib.hid hu
                  clear htg hb0 hw hw0
                  go_wp2_with fail
                  refine (guard_ReadO t hO.its (hR.ext hX)).mono ?_
                  rintro e wa ⟨v1, rfl, h1, hEa⟩
                  rw [hu.out] at h1 ⊢
                  obtain ⟨b1, d1, rfl, -⟩ := h1.its.form
                  go_wp2
                  go_ret
                  exact ⟨rfl, (hF6.trans hX).trans hEa⟩
              · have hie : i = tags.length := by omega
                subst hie
                have hst : A1 = lc ∧ A2 = (tags.length : Int) ∧ A3 = 0 := by
                  have h2 := hrd.out
                  rw [readsR_end, hA.out] at h2
                  simpa using h2
                obtain ⟨rfl, rfl, rfl⟩ := hst
                go_wp2_with fail
                refine (ref28_Same_yes (ma.ext hX) hO.its).mono ?_
                rintro e wa ⟨rfl, hEa⟩
                go_wp2
                go_ret
                exact ⟨rfl, (hF6.trans hX).trans hEa⟩

set_option maxRecDepth 100000 in
theorem phasesMany_contract (H : Type) (enc : TypeId × Value → H) (W : World) (base : Nat) (args : Array Value) (ds gs : List (DataW H)) (before : List MemPlace)
    (hval0 : ∀ (j : Nat) t v, Tryd.f9.params[j]? = some t → args[j]? = some v → Value.okWide Tryd.prog W .any base t v)
    (hW : DataW.Whole enc Tryd.prog Tryd.f9.params.toList Rows.phasesManySpec.vars false W args.toList ds gs before) (hL : laidMetH Tryd.prog Rows.phasesManyRow.laid W) :
    Calls Tryd.prog 9 args W fun e W' => ∃ v, e = .returned v ∧ Rows.phasesManySpec.post enc Tryd.prog Tryd.f9 false true false false W args v W' := by
  have hval : ∀ (j : Nat) t v, Tryd.f9.params[j]? = some t → args[j]? = some v → Value.okWide Tryd.prog W .any base t v := hval0
  have hW' := hW
  obtain ⟨p, q, hA0, hV, rfl, hfz, hnd⟩ := hW
  have hA : DataW.TrodAll enc Tryd.prog W 0 (fun _ => true) true Tryd.f9.params.toList args.toList ds p := hA0
  rw [Tryd.params9] at hA hval
  obtain ⟨v0, vs0, d0, ds0, p0, q0, hargs, rfl, rfl, h0, r0⟩ := trodAll_cons hA
  obtain ⟨v1, vs1, d1, ds1, p1, q1, rfl, rfl, rfl, h1, r1⟩ := trodAll_cons r0
  obtain ⟨v2, vs2, d2, ds2, p2, q2, rfl, rfl, rfl, h2, r2⟩ := trodAll_cons r1
  obtain ⟨rfl, rfl, rfl⟩ := trodAll_nil r2
  obtain rfl : args = #[v0, v1, v2] := by cases args; simp_all
  obtain ⟨x0, k0, wf0⟩ := open_items Tryd.underlying31 (hval 0 31 v0 rfl rfl) h0
  obtain ⟨x1, k1, wf1⟩ := open_ints' Tryd.underlying37 (hval 1 37 v1 rfl rfl) h1
  obtain ⟨x2, k2, wf2⟩ := open_ints' Tryd.underlying37 (hval 2 37 v2 rfl rfl) h2
  refine (phasesMany_walk (perms_of_laid hL) k0 k1 k2).mono fun e W' ⟨he, hb⟩ => ?_
  subst he
  exact ⟨_, rfl, post_law TrydlaidOut (tb := 4) rfl Tryd.underlying4 (by kernel_rfl) rfl (fun ds hd => match ds, hd with | [a0, a1, a2], _ => rfl) hW' hb⟩
theorem phasesMany_met (os : Os) : laidMet Tryd.prog Rows.phasesManyRow.laid ((doorWorld os).forCall (fun _ _ => 0) ⟨#[], #[.slice none 0 0, .slice none 0 0, .slice none 0 0], []⟩).memory :=
  laidMet_of_run' 8 (by kernel_rfl) (by kernel_rfl)
theorem phasesMany_reads (os : Os) {H : Type} (enc : TypeId × Value → H) : ∃ places, DataW.whole enc Tryd.prog ((doorWorld os).forCall (fun _ _ => 0) ⟨#[], #[.slice none 0 0, .slice none 0 0, .slice none 0 0], []⟩).memory Tryd.f9.params.toList Rows.phasesManySpec.vars false (#[.slice none 0 0, .slice none 0 0, .slice none 0 0] : Array Value).toList 8 = some ([.nil, .nil, .nil], [], places) :=
  ⟨[], by kernel_rfl⟩
set_option maxRecDepth 100000 in
theorem phasesMany_lifted (os : Os) (started : os.Started) (H : Type) (enc : TypeId × Value → H) (F : Stop.Interp) :
    ReturnsInHanded {} Tryd.checked os 9 .any ((OpenSpec.ofChange Rows.phasesManySpec).preRow enc Tryd.prog Tryd.f9 Rows.phasesManyRow.domain false Rows.phasesManyRow.laid) (((OpenSpec.ofChange Rows.phasesManySpec).at F).post enc Tryd.prog Tryd.f9 false true false false) := by
  obtain ⟨places, hx⟩ := phasesMany_reads os enc
  refine returnsInHanded_of_row (C := Tryd.checked) (s := OpenSpec.ofChange Rows.phasesManySpec) Trydown started (by kernel_rfl) Tryd.func9
    (witness_row_at (enc := enc) (C := Tryd.checked) false (doorWorld os) #[.slice none 0 0, .slice none 0 0, .slice none 0 0] rfl (by kernel_rfl) (by kernel_rfl) (by kernel_rfl)
      (OpenSpec.preRow_of_cond 8 hx (by kernel_rfl) (fun k hk => by cases hk) (by kernel_rfl) (phasesMany_met os))) ?_
  intro W base args ds gs before hval hW _ _ _ hL _ _
  exact phasesMany_contract H enc W base args ds gs before hval hW hL
theorem phasesMany_said : Rows.PhasesManySaid :=
  OpenClaim.holds_of_cond 9 Tryd.f9 rfl rfl rfl rfl rfl rfl rfl ⟨rfl, rfl, rfl, rfl, rfl⟩ rfl rfl rfl rfl rfl (by kernel_rfl) Tryd.func9 (by kernel_rfl)
    (of_decide_eq_true (by kernel_rfl)) (by unfold Func.isWrapper; first | (rw [if_pos (by decide +kernel)]; kernel_rfl) | (rw [if_neg (by decide +kernel)]; exact ⟨rfl, rfl⟩))
    (fun os started H enc _ F => by rw [OpenClaim.pre_eq_preRow]; exact phasesMany_lifted os started H enc F)
theorem phasesMany_plain (f : FuncId) (fn : Func) (hf : Tryd.pinned.checked.prog.funcNamed "pawnshop/pawnshoplaw32.PhasesMany" = some f) (hfn : Tryd.pinned.checked.prog.funcs[f]? = some fn) :
    false = Tryd.pinned.checked.prog.looks [] ∧ ∀ (j : Nat) t, fn.params[j]? = some t → Tryd.pinned.checked.prog.wantsStandIn t = false := by
  obtain rfl : f = 9 := Option.some.inj ((show Tryd.prog.funcNamed "pawnshop/pawnshoplaw32.PhasesMany" = some 9 by kernel_rfl).symm.trans hf) |>.symm
  obtain rfl : fn = Tryd.f9 := (Option.some.inj (Tryd.func9.symm.trans hfn)).symm
  refine ⟨by kernel_rfl, fun j t ht => ?_⟩
  have hm : t ∈ Tryd.f9.params.toList := by simpa using Array.mem_of_getElem? ht
  have hall : (Tryd.f9.params.toList.all fun u => !Tryd.prog.wantsStandIn u) = true := by kernel_rfl
  exact (show Tryd.prog.wantsStandIn t = false by simpa using List.all_eq_true.1 hall t hm)
theorem phasesMany_card : Rows.PhasesManyCardSaid :=
  Claim7.holds_tied_plain_at .later [] _ _ _ _ phasesMany_said (fun _ h => by cases h) (by kernel_rfl) (fun _ h => by cases h) phasesMany_row_tie rfl ⟨rfl, rfl⟩ (by kernel_rfl) rfl phasesMany_plain (by kernel_rfl)

end Go.Proofs.YtoobdejbcgkfdaaDoor
