/- The statement ItemsParts: for every stack, index and item the call returns true. No condition. -/
import Derived.Test.YtifigkhahabpfaaItemsF
import Derived.Test.YtifigkhahabpfaaItemsP
import Derived.Test.YtifigkhahabpfaaItemsC
import Derived.Test.YtifigkhahabpfaaClose
namespace Go.Proofs.Ytifigkhahabpfaa
open Go.ChangeShapes Go.WideShapes Go.ChangeAt Go.RowKit

set_option maxHeartbeats 3200000 in
theorem itemsParts_walk {l : List Item} {v : Value} {w : World} (at' : Int) (x : Item) (hl : Its w v l) :
    Calls Try.prog 5 #[v, .int .i64 at', x.val] w fun e w' => e = .returned (.bool true) ∧ Ext w w' := by
  obtain ⟨p, t, c⟩ := x
  unfold Item.val
  have hF0 := (Ext.refl w).alloc (.cells #[.int .u8 p, .int .i64 t, .int .i64 c] 31)
  have hL := hl.ext hF0
  by_cases hg : 610 < l.length
  · go_enter Try.func5, Try.ntmps5
    go_wp2_with fail
    refine (ref28_Great hL).mono ?_
    rintro e w1 ⟨rfl, rfl⟩
    go_wp2
    go_ret
    exact ⟨rfl, hF0⟩
  · have hg1 : l.length ≤ 1000000 := by omega
    go_enter Try.func5, Try.ntmps5
    go_wp2_with fail
    refine (ref28_Great hL).mono ?_
    rintro e w1 ⟨rfl, rfl⟩
    have c0 : (w.alloc (.cells #[.int .u8 p, .int .i64 t, .int .i64 c] 31)).cell? ⟨w.heap.size, 0, none⟩ = some (.int .u8 p) := by simp
    have c1 : (w.alloc (.cells #[.int .u8 p, .int .i64 t, .int .i64 c] 31)).cell? ⟨w.heap.size, 1, none⟩ = some (.int .i64 t) := by simp
    have c2 : (w.alloc (.cells #[.int .u8 p, .int .i64 t, .int .i64 c] 31)).cell? ⟨w.heap.size, 2, none⟩ = some (.int .i64 c) := by simp
    go_wp2_with fail
    refine (ref28_Twin hL hg1).mono ?_
    rintro e w2 ⟨u, rfl, hu, hE2⟩
    have hF2 := hF0.trans hE2
    replace hL := hL.ext hE2
    replace c0 := hE2.cell c0
    replace c1 := hE2.cell c1
    replace c2 := hE2.cell c2
    have hU : Its _ u l := hu.sl
    go_wp2_with fail
    refine (items_Above at' hL).mono ?_
    rintro e w3 ⟨va, rfl, hva, hE3⟩
    have hF3 := hF2.trans hE3
    replace hL := hL.ext hE3
    replace hU := hU.ext hE3
    replace c0 := hE3.cell c0
    replace c1 := hE3.cell c1
    replace c2 := hE3.cell c2
    go_wp2_with fail
    refine (ref28_Above at' hU).mono ?_
    rintro e w4 ⟨vb, rfl, hvb, hE4⟩
    have hF4 := hF3.trans hE4
    replace hL := hL.ext hE4
    replace hU := hU.ext hE4
    replace hva := hva.ext hE4
    replace c0 := hE4.cell c0
    replace c1 := hE4.cell c1
    replace c2 := hE4.cell c2
    go_wp2_with fail
    refine (items_Below at' hL).mono ?_
    rintro e w5 ⟨vc, rfl, hvc, hE5⟩
    have hF5 := hF4.trans hE5
    replace hL := hL.ext hE5
    replace hU := hU.ext hE5
    replace hva := hva.ext hE5
    replace hvb := hvb.ext hE5
    replace c0 := hE5.cell c0
    replace c1 := hE5.cell c1
    replace c2 := hE5.cell c2
    go_wp2_with fail
    refine (ref28_Below at' hU).mono ?_
    rintro e w6 ⟨vd, rfl, hvd, hE6⟩
    have hF6 := hF5.trans hE6
    replace hL := hL.ext hE6
    replace hU := hU.ext hE6
    replace hva := hva.ext hE6
    replace hvb := hvb.ext hE6
    replace hvc := hvc.ext hE6
    replace c0 := hE6.cell c0
    replace c1 := hE6.cell c1
    replace c2 := hE6.cell c2
    go_wp2_with fail
    refine (items_Push ⟨p, t, c⟩ hL).mono ?_
    rintro e w7 ⟨ve, rfl, hve, hE7⟩
    have hF7 := hF6.trans hE7
    replace hL := hL.ext hE7
    replace hU := hU.ext hE7
    replace hva := hva.ext hE7
    replace hvb := hvb.ext hE7
    replace hvc := hvc.ext hE7
    replace hvd := hvd.ext hE7
    replace c0 := hE7.cell c0
    replace c1 := hE7.cell c1
    replace c2 := hE7.cell c2
    go_wp2_with fail
    refine (ref28_Push ⟨p, t, c⟩ hU).mono ?_
    rintro e w8 ⟨vf, rfl, hvf, hE8⟩
    have hF8 := hF7.trans hE8
    replace hL := hL.ext hE8
    replace hU := hU.ext hE8
    replace hva := hva.ext hE8
    replace hvb := hvb.ext hE8
    replace hvc := hvc.ext hE8
    replace hvd := hvd.ext hE8
    replace hve := hve.ext hE8
    replace c0 := hE8.cell c0
    replace c1 := hE8.cell c1
    replace c2 := hE8.cell c2
    go_wp2_with fail
    refine (ref28_Same hva.sl hvb.sl).mono ?_
    rintro e w9 ⟨rfl, hE9⟩
    have hF9 := hF8.trans hE9
    replace hL := hL.ext hE9
    replace hU := hU.ext hE9
    replace hva := hva.ext hE9
    replace hvb := hvb.ext hE9
    replace hvc := hvc.ext hE9
    replace hvd := hvd.ext hE9
    replace hve := hve.ext hE9
    replace hvf := hvf.ext hE9
    replace c0 := hE9.cell c0
    replace c1 := hE9.cell c1
    replace c2 := hE9.cell c2
    go_wp2_with fail
    refine (ref28_Same hvc.sl hvd.sl).mono ?_
    rintro e w10 ⟨rfl, hE10⟩
    have hF10 := hF9.trans hE10
    replace hL := hL.ext hE10
    replace hU := hU.ext hE10
    replace hva := hva.ext hE10
    replace hvb := hvb.ext hE10
    replace hvc := hvc.ext hE10
    replace hvd := hvd.ext hE10
    replace hve := hve.ext hE10
    replace hvf := hvf.ext hE10
    replace c0 := hE10.cell c0
    replace c1 := hE10.cell c1
    replace c2 := hE10.cell c2
    go_wp2_with fail
    refine (ref28_Same hve.sl hvf.sl).mono ?_
    rintro e w11 ⟨rfl, hE11⟩
    have hF11 := hF10.trans hE11
    replace hL := hL.ext hE11
    replace hU := hU.ext hE11
    replace hva := hva.ext hE11
    replace hvb := hvb.ext hE11
    replace hvc := hvc.ext hE11
    replace hvd := hvd.ext hE11
    replace hve := hve.ext hE11
    replace hvf := hvf.ext hE11
    replace c0 := hE11.cell c0
    replace c1 := hE11.cell c1
    replace c2 := hE11.cell c2
    go_wp2_with fail
    refine (ref28_Same hL hU).mono ?_
    rintro e w12 ⟨rfl, hE12⟩
    have hF12 := hF11.trans hE12
    replace hL := hL.ext hE12
    replace hU := hU.ext hE12
    replace hva := hva.ext hE12
    replace hvb := hvb.ext hE12
    replace hvc := hvc.ext hE12
    replace hvd := hvd.ext hE12
    replace hve := hve.ext hE12
    replace hvf := hvf.ext hE12
    replace c0 := hE12.cell c0
    replace c1 := hE12.cell c1
    replace c2 := hE12.cell c2
    go_wp2
    go_ret
    exact ⟨rfl, hF12⟩

set_option maxRecDepth 100000 in
theorem itemsParts_lifted (os : Os) (started : os.Started) (H : Type) (enc : TypeId × Value → H) :
    ReturnsInHanded {} Try.checked os 5 .any (Rows.itemsPartsSpec.pre6 enc Try.prog Try.f5 Rows.itemsPartsRow.domain false) (Rows.itemsPartsSpec.post enc Try.prog Try.f5 false true false false) := by
  refine returnsInHanded_of_change (C := Try.checked) Tryown started (by kernel_rfl) Try.func5
    (ChangeSpec.witness6 (enc := enc) (C := Try.checked) false ⟨#[], #[.slice none 0 0, .int .i64 0, .agg #[.int .u8 0, .int .i64 0, .int .i64 0]], []⟩ 8 (by kernel_rfl) (by kernel_rfl) (by kernel_rfl) (by kernel_rfl)) ?_
  intro W base args ds gs before hval0 hW _ _
  have hval : ∀ (j : Nat) t v, Try.f5.params[j]? = some t → args[j]? = some v → Value.okWide Try.prog W .any base t v := hval0
  have hW' := hW
  obtain ⟨p, q, hA0, hV, rfl, hfz, hnd⟩ := hW
  have hA : DataW.TrodAll enc Try.prog W 0 (fun _ => true) true Try.f5.params.toList args.toList ds p := hA0
  rw [Try.params5] at hA hval
  obtain ⟨v0, vs0, d0, ds0, p0, q0, hargs, rfl, rfl, h0, r0⟩ := trodAll_cons hA
  obtain ⟨v1, vs1, d1, ds1, p1, q1, rfl, rfl, rfl, h1, r1⟩ := trodAll_cons r0
  obtain ⟨v2, vs2, d2, ds2, p2, q2, rfl, rfl, rfl, h2, r2⟩ := trodAll_cons r1
  obtain ⟨rfl, rfl, rfl⟩ := trodAll_nil r2
  obtain rfl : args = #[v0, v1, v2] := by cases args; simp_all
  obtain ⟨x0, k0, wf0⟩ := open_items Try.underlying23 (hval 0 23 v0 rfl rfl) h0
  obtain ⟨x1, rfl, rfl, rfl, wf1⟩ := open_int Try.underlying3 (hval 1 3 v1 rfl rfl) h1
  obtain ⟨x2, rfl, wf2⟩ := open_item (hval 2 31 v2 rfl rfl) h2
  refine (itemsParts_walk x1 x2 k0).mono fun e W' ⟨he, hb⟩ => ?_
  subst he
  exact ⟨_, rfl, post_law TrylaidOut (tb := 4) rfl Try.underlying4 (by kernel_rfl) rfl (fun ds hd => match ds, hd with | [a0, a1, a2], _ => rfl) hW' hb⟩

theorem itemsParts_holds : Rows.ItemsPartsSaid :=
  OpenClaim.holds_of_wide 5 Try.f5 rfl rfl rfl rfl rfl rfl rfl ⟨rfl, rfl, rfl, rfl, rfl⟩ rfl rfl rfl rfl rfl (by kernel_rfl) Try.func5 (by kernel_rfl)
    (of_decide_eq_true (by kernel_rfl)) (by unfold Func.isWrapper; first | (rw [if_pos (by decide +kernel)]; kernel_rfl) | (rw [if_neg (by decide +kernel)]; exact ⟨rfl, rfl⟩))
    (fun os started H enc _ => itemsParts_lifted os started H enc)

end Go.Proofs.Ytifigkhahabpfaa
