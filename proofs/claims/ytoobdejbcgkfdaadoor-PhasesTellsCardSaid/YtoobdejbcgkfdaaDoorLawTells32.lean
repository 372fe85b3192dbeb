/- The statement PhasesTells, as the card: for every stack, tags and list of calls the call returns true; perms holds what its initialiser lays. No other condition. -/
import Derived.Test.YtoobdejbcgkfdaaDoorPhsB
import Derived.Test.YtoobdejbcgkfdaaDoorDoor
import Derived.Test.YtoobdejbcgkfdaaDoorReadI
namespace Go.Proofs.YtoobdejbcgkfdaaDoor
set_option maxRecDepth 100000
open Go.ChangeShapes Go.WideShapes Go.ChangeAt Go.RowKit


set_option maxRecDepth 100000 in
set_option maxHeartbeats 3200000 in
theorem phasesTells_walk {l : List Item} {run : List Int} {v r : Value} {w : World} (hp : Perms w) (old tag : Int) (hl : Its w v l) (hr : Nts w r run) :
    Calls Tryd.prog 4 #[v, .int .i64 old, .int .i64 tag, r] w fun e w' => e = .returned (.bool true) ∧ Ext w w' := by
  have hF0 := Ext.refl w
  have hL := hl; have hR := hr; have hP := hp
  obtain ⟨a, cp, rfl, hlc, hcm, -⟩ := hl.form
  obtain ⟨a2, cp2, rfl, hlc2, hcm2, -⟩ := hr.form
  clear hl hp hr
  by_cases hb : 610 < l.length
  · have hd : Hid (decide (610 < l.length) = true) := Hid.mk (decide_eq_true hb)
    go_enter Tryd.func4, Tryd.ntmps4
    go_wp2_with fail
    refine (ref28_Great hL).mono ?_
    rintro e w1 ⟨rfl, rfl⟩
    rw [hd.out]
    go_wp2
    go_ret
    exact ⟨rfl, hF0⟩
  · have hd : Hid (decide (610 < l.length) = false) := Hid.mk (decide_eq_false hb)
    have hs : l.length ≤ 1000000 := by omega
    clear hb
    by_cases h5 : 50 < run.length
    · have q1 : decide ((50 : Int) < (run.length : Int)) = true := decide_eq_true (by omega)
      clear h5
      go_enter Tryd.func4, Tryd.ntmps4
      go_wp2_with fail
      refine (ref28_Great hL).mono ?_
      rintro e w1 ⟨rfl, rfl⟩
      rw [hd.out]
      go_wp2
      go_ret
      exact ⟨rfl, hF0⟩
    · have q1 : decide ((50 : Int) < (run.length : Int)) = false := decide_eq_false (by omega)
      clear h5
      obtain ⟨⟨A1, A2, A3⟩, hA⟩ : ∃ r, tagR l 3 old ⟨0, tag, 0⟩ run = r := ⟨_, rfl⟩
      obtain ⟨⟨C1, C2, C3⟩, hC⟩ : ∃ r, useR l tag true run = r := ⟨_, rfl⟩
      obtain ⟨⟨p1, p2⟩, hph⟩ : ∃ r, phaseR l tag = r := ⟨_, rfl⟩
      replace hA := Lib.hid hA; replace hC := Lib.hid hC; replace hph := Lib.hid hph
      go_enter Tryd.func4, Tryd.ntmps4
      go_wp2_with fail
      refine (ref28_Great hL).mono ?_
      rintro e w1 ⟨rfl, rfl⟩
      rw [hd.out]
      go_wp2_with fail
      refine (ref28_Twin hL hs).mono ?_
      rintro e w2 ⟨vh, rfl, oh, hE2⟩
      have hF2 := hF0.trans hE2
      replace hL := hL.ext hE2
      replace hR := hR.ext hE2
      replace hP := hP.ext hE2
      have hH : Its w2 vh l := Own.sl oh
      clear oh
      obtain ⟨ah, ch, rfl, -⟩ := hH.form
      go_wp2_with fail
      refine (phases_Reserve hP old tag hL hR).mono ?_
      rintro e w3 ⟨vja, rfl, oja, hE3⟩
      have hF3 := hF2.trans hE3
      replace hL := hL.ext hE3
      replace hR := hR.ext hE3
      replace hP := hP.ext hE3
      replace hH := hH.ext hE3
      have ja : Its w3 vja A1 := by rw [hA.out] at oja; exact OwnI.its oja
      rw [hA.out]
      clear oja
      obtain ⟨aja, cja, rfl, -⟩ := ja.form
      go_wp2_with fail
      refine (ref32_Reserve old tag hH hR).mono ?_
      rintro e w4 ⟨vjb, rfl, ojb, hE4⟩
      have hF4 := hF3.trans hE4
      replace hL := hL.ext hE4
      replace hR := hR.ext hE4
      replace hP := hP.ext hE4
      replace hH := hH.ext hE4
      replace ja := ja.ext hE4
      have jb : Its w4 vjb A1 := by rw [hA.out] at ojb; exact OwnI.its ojb
      rw [hA.out]
      clear ojb
      obtain ⟨ajb, cjb, rfl, -⟩ := jb.form
      go_wp2_with fail
      refine (phases_Activate tag hL hR).mono ?_
      rintro e w5 ⟨vjc, rfl, ojc, hE5⟩
      have hF5 := hF4.trans hE5
      replace hL := hL.ext hE5
      replace hR := hR.ext hE5
      replace hP := hP.ext hE5
      replace hH := hH.ext hE5
      replace ja := ja.ext hE5
      replace jb := jb.ext hE5
      have jc : Its w5 vjc C1 := by rw [hC.out] at ojc; exact OwnI.its ojc
      rw [hC.out]
      clear ojc
      obtain ⟨ajc, cjc, rfl, -⟩ := jc.form
      go_wp2_with fail
      refine (ref32_Activate tag hH hR).mono ?_
      rintro e w6 ⟨vjd, rfl, ojd, hE6⟩
      have hF6 := hF5.trans hE6
      replace hL := hL.ext hE6
      replace hR := hR.ext hE6
      replace hP := hP.ext hE6
      replace hH := hH.ext hE6
      replace ja := ja.ext hE6
      replace jb := jb.ext hE6
      replace jc := jc.ext hE6
      have jd : Its w6 vjd C1 := by rw [hC.out] at ojd; exact OwnI.its ojd
      rw [hC.out]
      clear ojd
      obtain ⟨ajd, cjd, rfl, -⟩ := jd.form
      go_wp2_with fail
      refine (phases_Phase tag hL).mono ?_
      rintro e w7 ⟨rfl, hE7⟩
      have hF7 := hF6.trans hE7
      replace hL := hL.ext hE7
      replace hR := hR.ext hE7
      replace hP := hP.ext hE7
      replace hH := hH.ext hE7
      replace ja := ja.ext hE7
      replace jb := jb.ext hE7
      replace jc := jc.ext hE7
      replace jd := jd.ext hE7
      rw [hph.out]
      go_wp2_with fail
      refine (ref32_Phase tag hH).mono ?_
      rintro e w8 ⟨rfl, hE8⟩
      have hF8 := hF7.trans hE8
      replace hL := hL.ext hE8
      replace hR := hR.ext hE8
      replace hP := hP.ext hE8
      replace hH := hH.ext hE8
      replace ja := ja.ext hE8
      replace jb := jb.ext hE8
      replace jc := jc.ext hE8
      replace jd := jd.ext hE8
      rw [hph.out]
      go_wp2_with fail
      refine (ref28_Same_yes ja jb).mono ?_
      rintro e w9 ⟨rfl, hE9⟩
      have hF9 := hF8.trans hE9
      replace hL := hL.ext hE9
      replace hR := hR.ext hE9
      replace hP := hP.ext hE9
      replace hH := hH.ext hE9
      replace ja := ja.ext hE9
      replace jb := jb.ext hE9
      replace jc := jc.ext hE9
      replace jd := jd.ext hE9
      go_wp2_with fail
      refine (ref28_Same_yes jc jd).mono ?_
      rintro e w10 ⟨rfl, hE10⟩
      have hF10 := hF9.trans hE10
      replace hL := hL.ext hE10
      replace hR := hR.ext hE10
      replace hP := hP.ext hE10
      replace hH := hH.ext hE10
      replace ja := ja.ext hE10
      replace jb := jb.ext hE10
      replace jc := jc.ext hE10
      replace jd := jd.ext hE10
      go_wp2_with fail
      refine (ref28_Same_yes hL hH).mono ?_
      rintro e w11 ⟨rfl, hE11⟩
      have hF11 := hF10.trans hE11
      replace hL := hL.ext hE11
      replace hR := hR.ext hE11
      replace hP := hP.ext hE11
      replace hH := hH.ext hE11
      replace ja := ja.ext hE11
      replace jb := jb.ext hE11
      replace jc := jc.ext hE11
      replace jd := jd.ext hE11
      go_wp2
      go_ret
      exact ⟨rfl, hF11⟩

set_option maxRecDepth 100000 in
theorem phasesTells_contract (H : Type) (enc : TypeId × Value → H) (W : World) (base : Nat) (args : Array Value) (ds gs : List (DataW H)) (before : List MemPlace)
    (hval0 : ∀ (j : Nat) t v, Tryd.f4.params[j]? = some t → args[j]? = some v → Value.okWide Tryd.prog W .any base t v)
    (hW : DataW.Whole enc Tryd.prog Tryd.f4.params.toList Rows.phasesTellsSpec.vars false W args.toList ds gs before) (hL : laidMetH Tryd.prog Rows.phasesTellsRow.laid W) :
    Calls Tryd.prog 4 args W fun e W' => ∃ v, e = .returned v ∧ Rows.phasesTellsSpec.post enc Tryd.prog Tryd.f4 false true false false W args v W' := by
  have hval : ∀ (j : Nat) t v, Tryd.f4.params[j]? = some t → args[j]? = some v → Value.okWide Tryd.prog W .any base t v := hval0
  have hW' := hW
  obtain ⟨p, q, hA0, hV, rfl, hfz, hnd⟩ := hW
  have hA : DataW.TrodAll enc Tryd.prog W 0 (fun _ => true) true Tryd.f4.params.toList args.toList ds p := hA0
  rw [Tryd.params4] at hA hval
  obtain ⟨v0, vs0, d0, ds0, p0, q0, hargs, rfl, rfl, h0, r0⟩ := trodAll_cons hA
  obtain ⟨v1, vs1, d1, ds1, p1, q1, rfl, rfl, rfl, h1, r1⟩ := trodAll_cons r0
  obtain ⟨v2, vs2, d2, ds2, p2, q2, rfl, rfl, rfl, h2, r2⟩ := trodAll_cons r1
  obtain ⟨v3, vs3, d3, ds3, p3, q3, rfl, rfl, rfl, h3, r3⟩ := trodAll_cons r2
  obtain ⟨rfl, rfl, rfl⟩ := trodAll_nil r3
  obtain rfl : args = #[v0, v1, v2, v3] := by cases args; simp_all
  obtain ⟨x0, k0, wf0⟩ := open_items Tryd.underlying31 (hval 0 31 v0 rfl rfl) h0
  obtain ⟨x1, rfl, rfl, rfl, wf1⟩ := open_int Tryd.underlying3 (hval 1 3 v1 rfl rfl) h1
  obtain ⟨x2, rfl, rfl, rfl, wf2⟩ := open_int Tryd.underlying3 (hval 2 3 v2 rfl rfl) h2
  obtain ⟨x3, k3, wf3⟩ := open_ints' Tryd.underlying37 (hval 3 37 v3 rfl rfl) h3
  refine (phasesTells_walk (perms_of_laid hL) x1 x2 k0 k3).mono fun e W' ⟨he, hb⟩ => ?_
  subst he
  exact ⟨_, rfl, post_law TrydlaidOut (tb := 4) rfl Tryd.underlying4 (by kernel_rfl) rfl (fun ds hd => match ds, hd with | [a0, a1, a2, a3], _ => rfl) hW' hb⟩
theorem phasesTells_met (os : Os) : laidMet Tryd.prog Rows.phasesTellsRow.laid ((doorWorld os).forCall (fun _ _ => 0) ⟨#[], #[.slice none 0 0, .int .i64 0, .int .i64 0, .slice none 0 0], []⟩).memory :=
  laidMet_of_run' 8 (by kernel_rfl) (by kernel_rfl)
theorem phasesTells_reads (os : Os) {H : Type} (enc : TypeId × Value → H) : ∃ places, DataW.whole enc Tryd.prog ((doorWorld os).forCall (fun _ _ => 0) ⟨#[], #[.slice none 0 0, .int .i64 0, .int .i64 0, .slice none 0 0], []⟩).memory Tryd.f4.params.toList Rows.phasesTellsSpec.vars false (#[.slice none 0 0, .int .i64 0, .int .i64 0, .slice none 0 0] : Array Value).toList 8 = some ([.nil, .lit (.int .i64 0), .lit (.int .i64 0), .nil], [], places) :=
  ⟨[], by kernel_rfl⟩
set_option maxRecDepth 100000 in
theorem phasesTells_lifted (os : Os) (started : os.Started) (H : Type) (enc : TypeId × Value → H) (F : Stop.Interp) :
    ReturnsInHanded {} Tryd.checked os 4 .any ((OpenSpec.ofChange Rows.phasesTellsSpec).preRow enc Tryd.prog Tryd.f4 Rows.phasesTellsRow.domain false Rows.phasesTellsRow.laid) (((OpenSpec.ofChange Rows.phasesTellsSpec).at F).post enc Tryd.prog Tryd.f4 false true false false) := by
  obtain ⟨places, hx⟩ := phasesTells_reads os enc
  refine returnsInHanded_of_row (C := Tryd.checked) (s := OpenSpec.ofChange Rows.phasesTellsSpec) Trydown started (by kernel_rfl) Tryd.func4
    (witness_row_at (enc := enc) (C := Tryd.checked) false (doorWorld os) #[.slice none 0 0, .int .i64 0, .int .i64 0, .slice none 0 0] rfl (by kernel_rfl) (by kernel_rfl) (by kernel_rfl)
      (OpenSpec.preRow_of_cond 8 hx (by kernel_rfl) (fun k hk => by cases hk) (by kernel_rfl) (phasesTells_met os))) ?_
  intro W base args ds gs before hval hW _ _ _ hL _ _
  exact phasesTells_contract H enc W base args ds gs before hval hW hL
theorem phasesTells_said : Rows.PhasesTellsSaid :=
  OpenClaim.holds_of_cond 4 Tryd.f4 rfl rfl rfl rfl rfl rfl rfl ⟨rfl, rfl, rfl, rfl, rfl⟩ rfl rfl rfl rfl rfl (by kernel_rfl) Tryd.func4 (by kernel_rfl)
    (of_decide_eq_true (by kernel_rfl)) (by unfold Func.isWrapper; first | (rw [if_pos (by decide +kernel)]; kernel_rfl) | (rw [if_neg (by decide +kernel)]; exact ⟨rfl, rfl⟩))
    (fun os started H enc _ F => by rw [OpenClaim.pre_eq_preRow]; exact phasesTells_lifted os started H enc F)
theorem phasesTells_plain (f : FuncId) (fn : Func) (hf : Tryd.pinned.checked.prog.funcNamed "pawnshop/pawnshoplaw32.PhasesTells" = some f) (hfn : Tryd.pinned.checked.prog.funcs[f]? = some fn) :
    false = Tryd.pinned.checked.prog.looks [] ∧ ∀ (j : Nat) t, fn.params[j]? = some t → Tryd.pinned.checked.prog.wantsStandIn t = false := by
  obtain rfl : f = 4 := Option.some.inj ((show Tryd.prog.funcNamed "pawnshop/pawnshoplaw32.PhasesTells" = some 4 by kernel_rfl).symm.trans hf) |>.symm
  obtain rfl : fn = Tryd.f4 := (Option.some.inj (Tryd.func4.symm.trans hfn)).symm
  refine ⟨by kernel_rfl, fun j t ht => ?_⟩
  have hm : t ∈ Tryd.f4.params.toList := by simpa using Array.mem_of_getElem? ht
  have hall : (Tryd.f4.params.toList.all fun u => !Tryd.prog.wantsStandIn u) = true := by kernel_rfl
  exact (show Tryd.prog.wantsStandIn t = false by simpa using List.all_eq_true.1 hall t hm)
theorem phasesTells_card : Rows.PhasesTellsCardSaid :=
  Claim7.holds_tied_plain_at .later [] _ _ _ _ phasesTells_said (fun _ h => by cases h) (by kernel_rfl) (fun _ h => by cases h) phasesTells_row_tie rfl ⟨rfl, rfl⟩ (by kernel_rfl) rfl phasesTells_plain (by kernel_rfl)

end Go.Proofs.YtoobdejbcgkfdaaDoor
