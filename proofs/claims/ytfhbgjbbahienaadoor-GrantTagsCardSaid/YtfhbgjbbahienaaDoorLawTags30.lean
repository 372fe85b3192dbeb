/- The statement GrantTags, as the card: for every stack, kind, tag and item the call returns true; perms holds what its initialiser lays. No other condition. -/
import Derived.Test.YtfhbgjbbahienaaDoorGrdG
import Derived.Test.YtfhbgjbbahienaaDoorDoor
import Derived.Test.YtfhbgjbbahienaaDoorReadI
namespace Go.Proofs.YtfhbgjbbahienaaDoor
set_option maxRecDepth 100000
open Go.ChangeShapes Go.WideShapes Go.ChangeAt Go.RowKit


set_option maxRecDepth 100000 in
set_option maxHeartbeats 3200000 in
theorem grantTags_walk {l : List Item} {k : Int} {v : Value} {w : World} (hp : Perms w) (hk : u8B k) (old : Int) (x : Item) (hl : Its w v l) :
    Calls Tryd.prog 4 #[v, .int .u8 k, .int .i64 old, x.val] w fun e w' => e = .returned (.bool true) ∧ Ext w w' := by
  obtain ⟨a, cp, rfl, hlc, hcm, -⟩ := hl.form
  obtain ⟨xp, xt, xc⟩ := x
  unfold Item.val
  have bX := Box.new w 25 #[.int .u8 xp, .int .i64 xt, .int .i64 xc]
  have hF0 : Ext w (w.alloc (.cells #[.int .u8 xp, .int .i64 xt, .int .i64 xc] 25)) := (Ext.refl _).alloc _
  have hL := hl.ext hF0
  have hP := hp.ext hF0
  clear hl hp
  by_cases hb : 610 < l.length
  · have hd : Hid (decide (610 < l.length) = true) := Hid.mk (decide_eq_true hb)
    go_enter Tryd.func4, Tryd.ntmps4
    go_wp2_with fail
    refine (ref28_Great hL).mono ?_
    rintro e w1 ⟨rfl, rfl⟩
    rw [hd.out]
    go_wp2
    go_ret
    exact ⟨rfl, hF0⟩
  · have hd : Hid (decide (610 < l.length) = false) := Hid.mk (decide_eq_false hb)
    have hs : l.length ≤ 1000000 := by omega
    clear hb
    obtain ⟨⟨R, G, why, er⟩, hR⟩ : ∃ r, retagR l k old ⟨xp, xt, xc⟩ = r := ⟨_, rfl⟩
    obtain ⟨pm, hpm⟩ : ∃ r, permR k = r := ⟨_, rfl⟩
    obtain ⟨ke, hke⟩ : ∃ r, kindErr k = r := ⟨_, rfl⟩
    obtain ⟨kw, hkw⟩ : ∃ r, writesOf k = r := ⟨_, rfl⟩
    replace hR := Lib.hid hR; replace hpm := Lib.hid hpm; replace hke := Lib.hid hke; replace hkw := Lib.hid hkw
    go_enter Tryd.func4, Tryd.ntmps4
    go_wp2_with fail
    refine (ref28_Great hL).mono ?_
    rintro e w1 ⟨rfl, rfl⟩
    rw [hd.out]
    go_wp2_with fail
    refine (ref28_Twin hL hs).mono ?_
    rintro e w1 ⟨vh, rfl, oh, hE1⟩
    have hF1 := hF0.trans hE1
    replace hL := hL.ext hE1
    replace hP := hP.ext hE1
    replace bX := bX.ext hE1
    have hH : Its w1 vh l := Own.sl oh
    clear oh
    obtain ⟨ah, ch, rfl, -⟩ := hH.form
    have b0 := (bX.cell 0).trans rfl
    have b1 := (bX.cell 1).trans rfl
    have b2 := (bX.cell 2).trans rfl
    go_wp2_with fail
    refine (grant_RetagO hP hk old ⟨xp, xt, xc⟩ hL).mono ?_
    rintro e w2 ⟨va, vb, rfl, oa, ob, -, hE2⟩
    have hF2 := hF1.trans hE2
    replace hL := hL.ext hE2
    replace hP := hP.ext hE2
    replace bX := bX.ext hE2
    replace hH := hH.ext hE2
    have ha : Its w2 va R := by rw [hR.out] at oa; exact oa.sl
    have hb : Its w2 vb G := by rw [hR.out] at ob; exact ob.sl
    rw [hR.out]
    clear oa ob
    obtain ⟨aa, ca, rfl, -⟩ := ha.form
    obtain ⟨ab, cb, rfl, -⟩ := hb.form
    clear b0 b1 b2
    have b0 := (bX.cell 0).trans rfl
    have b1 := (bX.cell 1).trans rfl
    have b2 := (bX.cell 2).trans rfl
    go_wp2_with fail
    refine (ref30_RetagO hk old ⟨xp, xt, xc⟩ hH).mono ?_
    rintro e w3 ⟨vc, vd, rfl, oc, od, -, hE3⟩
    have hF3 := hF2.trans hE3
    replace hL := hL.ext hE3
    replace hP := hP.ext hE3
    replace bX := bX.ext hE3
    replace hH := hH.ext hE3
    replace ha := ha.ext hE3
    replace hb := hb.ext hE3
    have hc : Its w3 vc R := by rw [hR.out] at oc; exact oc.sl
    have hd' : Its w3 vd G := by rw [hR.out] at od; exact od.sl
    rw [hR.out]
    clear oc od
    obtain ⟨ac, cc, rfl, -⟩ := hc.form
    obtain ⟨ad, cd, rfl, -⟩ := hd'.form
    go_wp2_with fail
    refine (grant_Perm hP hk).mono ?_
    rintro e w4 ⟨rfl, rfl⟩
    rw [hpm.out, hke.out]
    go_wp2_with fail
    refine (ref30_Perm _ hk).mono ?_
    rintro e w5 ⟨rfl, rfl⟩
    rw [hpm.out, hke.out]
    go_wp2_with fail
    refine (grant_Writes _ hk).mono ?_
    rintro e w6 ⟨rfl, hE6⟩
    have hF6 := hF3.trans hE6
    replace hL := hL.ext hE6
    replace hP := hP.ext hE6
    replace bX := bX.ext hE6
    replace hH := hH.ext hE6
    replace ha := ha.ext hE6
    replace hb := hb.ext hE6
    replace hc := hc.ext hE6
    replace hd' := hd'.ext hE6
    rw [hkw.out, hke.out]
    go_wp2_with fail
    refine (ref30_Writes _ hk).mono ?_
    rintro e w7 ⟨rfl, rfl⟩
    rw [hkw.out, hke.out]
    go_wp2_with fail
    refine (ref28_Same_yes ha hc).mono ?_
    rintro e w8 ⟨rfl, hE8⟩
    have hF8 := hF6.trans hE8
    replace hL := hL.ext hE8
    replace hP := hP.ext hE8
    replace bX := bX.ext hE8
    replace hH := hH.ext hE8
    replace ha := ha.ext hE8
    replace hb := hb.ext hE8
    replace hc := hc.ext hE8
    replace hd' := hd'.ext hE8
    go_wp2_with fail
    refine (ref28_Same_yes hb hd').mono ?_
    rintro e w9 ⟨rfl, hE9⟩
    have hF9 := hF8.trans hE9
    replace hL := hL.ext hE9
    replace hP := hP.ext hE9
    replace bX := bX.ext hE9
    replace hH := hH.ext hE9
    replace ha := ha.ext hE9
    replace hb := hb.ext hE9
    replace hc := hc.ext hE9
    replace hd' := hd'.ext hE9
    go_wp2_with fail
    refine (grant_Check _ hk).mono ?_
    rintro e w10 ⟨rfl, rfl⟩
    rw [hke.out]
    go_wp2_with fail
    refine (ref30_Check _ hk).mono ?_
    rintro e w11 ⟨rfl, rfl⟩
    rw [hke.out]
    go_wp2_with fail
    refine (ref28_Same_yes hL hH).mono ?_
    rintro e w12 ⟨rfl, hE12⟩
    have hF12 := hF9.trans hE12
    replace hL := hL.ext hE12
    replace hP := hP.ext hE12
    replace bX := bX.ext hE12
    replace hH := hH.ext hE12
    replace ha := ha.ext hE12
    replace hb := hb.ext hE12
    replace hc := hc.ext hE12
    replace hd' := hd'.ext hE12
    go_wp2
    go_ret
    exact ⟨rfl, hF12⟩

set_option maxRecDepth 100000 in
theorem grantTags_contract (H : Type) (enc : TypeId × Value → H) (W : World) (base : Nat) (args : Array Value) (ds gs : List (DataW H)) (before : List MemPlace)
    (hval0 : ∀ (j : Nat) t v, Tryd.f4.params[j]? = some t → args[j]? = some v → Value.okWide Tryd.prog W .any base t v)
    (hW : DataW.Whole enc Tryd.prog Tryd.f4.params.toList Rows.grantTagsSpec.vars false W args.toList ds gs before) (hL : laidMetH Tryd.prog Rows.grantTagsRow.laid W) :
    Calls Tryd.prog 4 args W fun e W' => ∃ v, e = .returned v ∧ Rows.grantTagsSpec.post enc Tryd.prog Tryd.f4 false true false false W args v W' := by
  have hval : ∀ (j : Nat) t v, Tryd.f4.params[j]? = some t → args[j]? = some v → Value.okWide Tryd.prog W .any base t v := hval0
  have hW' := hW
  obtain ⟨p, q, hA0, hV, rfl, hfz, hnd⟩ := hW
  have hA : DataW.TrodAll enc Tryd.prog W 0 (fun _ => true) true Tryd.f4.params.toList args.toList ds p := hA0
  rw [Tryd.params4] at hA hval
  obtain ⟨v0, vs0, d0, ds0, p0, q0, hargs, rfl, rfl, h0, r0⟩ := trodAll_cons hA
  obtain ⟨v1, vs1, d1, ds1, p1, q1, rfl, rfl, rfl, h1, r1⟩ := trodAll_cons r0
  obtain ⟨v2, vs2, d2, ds2, p2, q2, rfl, rfl, rfl, h2, r2⟩ := trodAll_cons r1
  obtain ⟨v3, vs3, d3, ds3, p3, q3, rfl, rfl, rfl, h3, r3⟩ := trodAll_cons r2
  obtain ⟨rfl, rfl, rfl⟩ := trodAll_nil r3
  obtain rfl : args = #[v0, v1, v2, v3] := by cases args; simp_all
  obtain ⟨x0, k0, wf0⟩ := open_items Tryd.underlying23 (hval 0 23 v0 rfl rfl) h0
  obtain ⟨x1, rfl, rfl, rfl, wf1⟩ := open_int Tryd.underlying5 (hval 1 5 v1 rfl rfl) h1
  obtain ⟨x2, rfl, rfl, rfl, wf2⟩ := open_int Tryd.underlying3 (hval 2 3 v2 rfl rfl) h2
  obtain ⟨x3, rfl, wf3⟩ := open_item (hval 3 25 v3 rfl rfl) h3
  refine (grantTags_walk (perms_of_laid hL) (u8B_of wf1) x2 x3 k0).mono fun e W' ⟨he, hb⟩ => ?_
  subst he
  exact ⟨_, rfl, post_law TrydlaidOut (tb := 4) rfl Tryd.underlying4 (by kernel_rfl) rfl (fun ds hd => match ds, hd with | [a0, a1, a2, a3], _ => rfl) hW' hb⟩
theorem grantTags_met (os : Os) : laidMet Tryd.prog Rows.grantTagsRow.laid ((doorWorld os).forCall (fun _ _ => 0) ⟨#[], #[.slice none 0 0, .int .u8 0, .int .i64 0, .agg #[.int .u8 0, .int .i64 0, .int .i64 0]], []⟩).memory :=
  laidMet_of_run' 8 (by kernel_rfl) (by kernel_rfl)
theorem grantTags_reads (os : Os) {H : Type} (enc : TypeId × Value → H) : ∃ places, DataW.whole enc Tryd.prog ((doorWorld os).forCall (fun _ _ => 0) ⟨#[], #[.slice none 0 0, .int .u8 0, .int .i64 0, .agg #[.int .u8 0, .int .i64 0, .int .i64 0]], []⟩).memory Tryd.f4.params.toList Rows.grantTagsSpec.vars false (#[.slice none 0 0, .int .u8 0, .int .i64 0, .agg #[.int .u8 0, .int .i64 0, .int .i64 0]] : Array Value).toList 8 = some ([.nil, .lit (.int .u8 0), .lit (.int .i64 0), .agg [.lit (.int .u8 0), .lit (.int .i64 0), .lit (.int .i64 0)]], [], places) :=
  ⟨[], by kernel_rfl⟩
set_option maxRecDepth 100000 in
theorem grantTags_lifted (os : Os) (started : os.Started) (H : Type) (enc : TypeId × Value → H) (F : Stop.Interp) :
    ReturnsInHanded {} Tryd.checked os 4 .any ((OpenSpec.ofChange Rows.grantTagsSpec).preRow enc Tryd.prog Tryd.f4 Rows.grantTagsRow.domain false Rows.grantTagsRow.laid) (((OpenSpec.ofChange Rows.grantTagsSpec).at F).post enc Tryd.prog Tryd.f4 false true false false) := by
  obtain ⟨places, hx⟩ := grantTags_reads os enc
  refine returnsInHanded_of_row (C := Tryd.checked) (s := OpenSpec.ofChange Rows.grantTagsSpec) Trydown started (by kernel_rfl) Tryd.func4
    (witness_row_at (enc := enc) (C := Tryd.checked) false (doorWorld os) #[.slice none 0 0, .int .u8 0, .int .i64 0, .agg #[.int .u8 0, .int .i64 0, .int .i64 0]] rfl (by kernel_rfl) (by kernel_rfl) (by kernel_rfl)
      (OpenSpec.preRow_of_cond 8 hx (by kernel_rfl) (fun k hk => by cases hk) (by kernel_rfl) (grantTags_met os))) ?_
  intro W base args ds gs before hval hW _ _ _ hL _ _
  exact grantTags_contract H enc W base args ds gs before hval hW hL
theorem grantTags_said : Rows.GrantTagsSaid :=
  OpenClaim.holds_of_cond 4 Tryd.f4 rfl rfl rfl rfl rfl rfl rfl ⟨rfl, rfl, rfl, rfl, rfl⟩ rfl rfl rfl rfl rfl (by kernel_rfl) Tryd.func4 (by kernel_rfl)
    (of_decide_eq_true (by kernel_rfl)) (by unfold Func.isWrapper; first | (rw [if_pos (by decide +kernel)]; kernel_rfl) | (rw [if_neg (by decide +kernel)]; exact ⟨rfl, rfl⟩))
    (fun os started H enc _ F => by rw [OpenClaim.pre_eq_preRow]; exact grantTags_lifted os started H enc F)
theorem grantTags_plain (f : FuncId) (fn : Func) (hf : Tryd.pinned.checked.prog.funcNamed "pawnshop/pawnshoplaw30.GrantTags" = some f) (hfn : Tryd.pinned.checked.prog.funcs[f]? = some fn) :
    false = Tryd.pinned.checked.prog.looks [] ∧ ∀ (j : Nat) t, fn.params[j]? = some t → Tryd.pinned.checked.prog.wantsStandIn t = false := by
  obtain rfl : f = 4 := Option.some.inj ((show Tryd.prog.funcNamed "pawnshop/pawnshoplaw30.GrantTags" = some 4 by kernel_rfl).symm.trans hf) |>.symm
  obtain rfl : fn = Tryd.f4 := (Option.some.inj (Tryd.func4.symm.trans hfn)).symm
  refine ⟨by kernel_rfl, fun j t ht => ?_⟩
  have hm : t ∈ Tryd.f4.params.toList := by simpa using Array.mem_of_getElem? ht
  have hall : (Tryd.f4.params.toList.all fun u => !Tryd.prog.wantsStandIn u) = true := by kernel_rfl
  exact (show Tryd.prog.wantsStandIn t = false by simpa using List.all_eq_true.1 hall t hm)
theorem grantTags_card : Rows.GrantTagsCardSaid :=
  Claim7.holds_tied_plain_at .later [] _ _ _ _ grantTags_said (fun _ h => by cases h) (by kernel_rfl) (fun _ h => by cases h) grantTags_row_tie rfl ⟨rfl, rfl⟩ (by kernel_rfl) rfl grantTags_plain (by kernel_rfl)

end Go.Proofs.YtfhbgjbbahienaaDoor
