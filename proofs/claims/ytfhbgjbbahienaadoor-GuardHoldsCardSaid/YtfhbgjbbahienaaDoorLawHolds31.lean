/- The statement GuardHolds, as the card: for every stack, access, tag and list of calls the call returns true; perms holds what its initialiser lays. No other condition. -/
import Derived.Test.YtfhbgjbbahienaaDoorLaw31C
import Derived.Test.YtfhbgjbbahienaaDoorDoor
import Derived.Test.YtfhbgjbbahienaaDoorReadI
import Derived.Deep.QuietTactic
import Derived.BigQuiet
namespace Go.Proofs.YtfhbgjbbahienaaDoor
set_option maxRecDepth 100000
open Go.ChangeShapes Go.WideShapes Go.ChangeAt Go.RowKit


set_option maxRecDepth 100000 in
set_option maxHeartbeats 3200000 in
theorem guardHolds_walk {l : List Item} {run : List Int} {k : Int} {v r : Value} {w : World} (hp : Perms w) (hk : u8B k) (tag : Int) (hl : Its w v l) (hr : Nts w r run) :
    Calls Tryd.prog 8 #[v, .int .u8 k, .int .i64 tag, r] w fun e w' => e = .returned (.bool true) ∧ Ext w w' := by
  have hF0 := Ext.refl w
  have hL := hl; have hR := hr; have hP := hp
  obtain ⟨a, cp, rfl, hlc, hcm, -⟩ := hl.form
  obtain ⟨a2, cp2, rfl, hlc2, hcm2, -⟩ := hr.form
  clear hl hp hr
  by_cases hb : 610 < l.length
  · have hd : Hid (decide (610 < l.length) = true) := Hid.mk (decide_eq_true hb)
    go_enter Tryd.func8, Tryd.ntmps8
    go_wp2_with fail
    refine (law31_aliveO _).mono ?_
    rintro e w1 ⟨rfl, hE1⟩
    have hF1 := hF0.trans hE1
    replace hL := hL.ext hE1
    replace hR := hR.ext hE1
    replace hP := hP.ext hE1
    go_wp2_with fail
    refine (ref28_Great hL).mono ?_
    rintro e w2 ⟨rfl, rfl⟩
    rw [hd.out]
    go_wp2
    go_ret
    exact ⟨rfl, hF1⟩
  · have hd : Hid (decide (610 < l.length) = false) := Hid.mk (decide_eq_false hb)
    have hl610 : l.length ≤ 610 := by omega
    clear hb
    by_cases h5 : 32 < run.length
    · have q1 : decide ((32 : Int) < (run.length : Int)) = true := decide_eq_true (by omega)
      clear h5
      go_enter Tryd.func8, Tryd.ntmps8
      go_wp2_with fail
      refine (law31_aliveO _).mono ?_
      rintro e w1 ⟨rfl, hE1⟩
      have hF1 := hF0.trans hE1
      replace hL := hL.ext hE1
      replace hR := hR.ext hE1
      replace hP := hP.ext hE1
      go_wp2_with fail
      refine (ref28_Great hL).mono ?_
      rintro e w2 ⟨rfl, rfl⟩
      rw [hd.out]
      go_wp2
      go_ret
      exact ⟨rfl, hF1⟩
    · have q1 : decide ((32 : Int) < (run.length : Int)) = false := decide_eq_false (by omega)
      have hl32 : run.length ≤ 32 := by omega
      clear h5
      obtain ⟨⟨T, why, er⟩, hA⟩ : ∃ x, doR l k tag run = x := ⟨_, rfl⟩
      by_cases hn : er = 0 ∧ why = 0
      · obtain ⟨rfl, rfl⟩ := hn
        obtain ⟨pos, hpos⟩ := holds_law hA
        replace hpos := Lib.hid hpos
        replace hA := Lib.hid hA
        go_enter Tryd.func8, Tryd.ntmps8
        go_wp2_with fail
        refine (law31_aliveO _).mono ?_
        rintro e w1 ⟨rfl, hE1⟩
        have hF1 := hF0.trans hE1
        replace hL := hL.ext hE1
        replace hR := hR.ext hE1
        replace hP := hP.ext hE1
        go_wp2_with fail
        refine (ref28_Great hL).mono ?_
        rintro e w2 ⟨rfl, rfl⟩
        rw [hd.out]
        go_wp2_with fail
        refine (law31_use hP hk tag hL hR).mono ?_
        rintro e w3 ⟨va, rfl, oa, hE3⟩
        have hF3 := hF1.trans hE3
        replace hL := hL.ext hE3
        replace hR := hR.ext hE3
        replace hP := hP.ext hE3
        have ha : Its w3 va T := by rw [hA.out] at oa; exact oa.its
        rw [hA.out]
        clear oa
        obtain ⟨aa, ca, rfl, hlca, hcma, -⟩ := ha.form
        unfold maxLen at hcma
        go_wp2
        go_loopw [13, 14] (fun nv iv wr => ∃ j n : Nat, j ≤ l.length ∧ iv = .int .i64 j ∧ nv = .int .i64 n ∧ Hid (n ≤ pos j) ∧ Ext w3 wr) (fun _ iv _ => l.length - (intOf iv).toNat)
        case atStart => exact ⟨0, 0, Nat.zero_le _, rfl, rfl, Hid.mk (Nat.zero_le _), Ext.refl _⟩
        case round =>
          obtain ⟨j, n, hj, rfl, rfl, hnp, hX⟩ := hrel
          by_cases hlt : j < l.length
          · obtain ⟨x, hx⟩ : ∃ x, l[j]? = some x := ⟨l[j], by simp [hlt]⟩
            obtain ⟨b0, o0, rfl, hb0, c0, c1, c2⟩ := (hL.ext hX).cell hx
            have hup := Lib.hid (hpos.out.up j x hx)
            have hat := Lib.hid (hpos.out.at_ j x hx)
            have hXl := Lib.hid hx
            clear hx
            by_cases hc0 : x.c = 0
            · have z0 : (x.c == 0) = true := beq_iff_eq.2 hc0
              clear hc0
              go_wp2
              go_roundw
              case rel => exact ⟨j + 1, n, by omega, by go_num, rfl, Hid.mk (Nat.le_trans hnp.out hup.out), hX⟩
              case measure => simp [intOf]; omega
            · have z0 : (x.c == 0) = false := beq_eq_false_iff_ne.2 hc0
              clear hc0
              cases hh : hasR run x.c
              · have hh' := Lib.hid hh
                clear hh
                go_wp2_with fail
                refine (ref31_Runs x.c (hR.ext hX)).mono ?_
                rintro e wz ⟨rfl, rfl⟩
                rw [hh'.out]
                go_wp2
                go_roundw
                case rel => exact ⟨j + 1, n, by omega, by go_num, rfl, Hid.mk (Nat.le_trans hnp.out hup.out), hX⟩
                case measure => simp [intOf]; omega
              · have hat2 := Lib.hid (hat.out (by unfold heldBy; exact hh))
                have hh' := Lib.hid hh
                clear hh
                go_wp2_with fail
                refine (ref31_Runs x.c (hR.ext hX)).mono ?_
                rintro e wz ⟨rfl, rfl⟩
                rw [hh'.out]
                have bX := Box.new wr 25 #[.int .u8 x.p, .int .i64 x.t, .int .i64 x.c]
                have hfr := bX.frozen 0
                go_wp2
                have hEs : Ext wr (wr.alloc (.cells #[.int .u8 1, .int .i64 x.t, .int .i64 x.c] 25)) := (Ext.refl wr).alloc _
                have bY := Box.new wr 25 #[.int .u8 1, .int .i64 x.t, .int .i64 x.c]
                obtain ⟨ws, hws⟩ : ∃ z, wr.alloc (.cells #[.int .u8 1, .int .i64 x.t, .int .i64 x.c] 25) = z := ⟨_, rfl⟩
                rw [hws] at hEs bY ⊢
                obtain ⟨bb, hbb⟩ : ∃ n, Array.size (World.heap wr) = n := ⟨_, rfl⟩
                rw [hbb] at bY ⊢
                clear hbb hws bX hfr c0 c1 c2 hb0
                go_loopw [13] (fun nv wq => ∃ m : Nat, nv = .int .i64 m ∧ Hid (m ≤ pos j) ∧ Ext ws wq) (fun nv _ => T.length - (intOf nv).toNat)
                case atStart => exact ⟨n, rfl, hnp, Ext.refl _⟩
                case round =>
                  obtain ⟨m, rfl, hmp, hY⟩ := hrel
                  have hmT : m < T.length := by
                    obtain ⟨-, y', hy', -⟩ := hat2.out
                    exact Nat.lt_of_le_of_lt hmp.out (List.getElem?_eq_some_iff.1 hy').1
                  obtain ⟨y, hy⟩ : ∃ y, T[m]? = some y := ⟨T[m], by simp [hmT]⟩
                  have hXY := (hX.trans hEs).trans hY
                  obtain ⟨b1, o1, rfl, hb1, d0, d1, d2⟩ := (ha.ext hXY).cell hy
                  obtain ⟨b2, o2, hbe, hb2, c0, c1, c2⟩ := (hL.ext hXY).cell hXl.out
                  cases hbe
                  clear hb1 hb2
                  have bZ := bY.ext hY
                  have e0 : World.cell? wr ⟨bb, 0, none⟩ = some (.int .u8 1) := bZ.cell 0
                  have e1 : World.cell? wr ⟨bb, 1, none⟩ = some (.int .i64 x.t) := bZ.cell 1
                  have e2 : World.cell? wr ⟨bb, 2, none⟩ = some (.int .i64 x.c) := bZ.cell 2
                  have hi0 : (0 : Int) ≤ (m : Int) := by omega
                  have hi1 : (m : Int) < (T.length : Int) := by omega
                  have hi2 : (0 : Int) ≤ (j : Int) := by omega
                  have hi3 : (j : Int) < (l.length : Int) := by omega
                  have hi4 : ((m : Int) == (T.length : Int)) = false := beq_eq_false_iff_ne.2 (by omega)
                  have hmx : (m : Int) + 1 ≤ 9223372036854775807 := by omega
                  have hmw : IntKind.i64.wrap ((m : Int) + 1) = (m : Int) + 1 := IntWalk.i64_in _ (by omega)
                  have hnext : Hid (¬ Same1 x y → m + 1 ≤ pos j) := Hid.mk (fun hs => by
                    rcases Nat.lt_or_ge m (pos j) with h | h
                    · exact h
                    · obtain ⟨-, y', hy', hs'⟩ := hat2.out
                      have : m = pos j := Nat.le_antisymm hmp.out h
                      rw [← this, hy] at hy'
                      cases hy'
                      exact absurd hs' hs)
                  have hne1 := run_neq_item y x
                  have hne2 := run_neq_item y ⟨1, x.t, x.c⟩
                  replace hy := Lib.hid hy
                  by_cases h1 : y = x
                  · subst h1
                    simp only [ne_eq, not_true_eq_false, decide_false] at hne1
                    unfold Item.val at hne1
                    clear hne2 hnext
                    go_wp2
                    go_quiet (fail)
                    go_wp2
                    go_roundw
                    case rel => exact ⟨j + 1, m + 1, by omega, by go_num, by go_num, Hid.mk (by rw [hat2.out.1]; exact Nat.succ_le_succ hmp.out), (by first | exact hXY.drewN _ | exact hXY)⟩
                    case measure => simp [intOf]; omega
                  · have n1 : decide (y ≠ x) = true := decide_eq_true h1
                    simp only [n1] at hne1
                    unfold Item.val at hne1
                    by_cases h2 : x.p = 2
                    · have z2 : (x.p != 2) = false := by simp [h2]
                      have z2' := Lib.hid h2
                      by_cases h3 : y = ⟨1, x.t, x.c⟩
                      · simp only [h3, ne_eq, not_true_eq_false, decide_false] at hne2
                        have hyv : Hid (y = ⟨1, x.t, x.c⟩) := Hid.mk h3
                        have yp : y.p = 1 := by rw [h3]
                        have yt : y.t = x.t := by rw [h3]
                        have yc : y.c = x.c := by rw [h3]
                        rw [yp] at d0 hne1; rw [yt] at d1 hne1; rw [yc] at d2 hne1
                        unfold Item.val at hne2
                        clear h1 h2 h3 n1 yp yt yc hnext
                        go_wp2
                        go_quiet (fail)
                        go_wp2
                        go_roundw
                        case rel => exact ⟨j + 1, m + 1, by omega, by go_num, by go_num, Hid.mk (by rw [hat2.out.1]; exact Nat.succ_le_succ hmp.out), (by first | exact hXY.drewN _ | exact hXY)⟩
                        case measure => simp [intOf]; omega
                      · have n3 : decide (y ≠ ⟨1, x.t, x.c⟩) = true := decide_eq_true h3
                        simp only [n3] at hne2
                        unfold Item.val at hne2
                        replace hnext := Lib.hid (hnext.out (fun hs => by rcases hs with hs | ⟨-, hs⟩; exact h1 hs; exact h3 hs))
                        clear h1 h2 h3 n1 n3
                        go_wp2
                        go_quiet (fail)
                        go_wp2
                        go_roundw
                        case rel => exact ⟨m + 1, by go_num, hnext, (by first | exact hY.drewN _ | exact hY)⟩
                        case measure => simp [intOf]; omega
                    · have z2 : (x.p != 2) = true := by simp [h2]
                      replace hnext := Lib.hid (hnext.out (fun hs => by rcases hs with hs | ⟨hs, -⟩; exact h1 hs; exact h2 hs))
                      clear h1 h2 n1 hne2
                      go_wp2
                      go_quiet (fail)
                      go_wp2
                      go_roundw
                      case rel => exact ⟨m + 1, by go_num, hnext, (by first | exact hY.drewN _ | exact hY)⟩
                      case measure => simp [intOf]; omega
          · have hje : j = l.length := by omega
            subst hje
            go_wp2
            go_ret
            exact ⟨rfl, hF3.trans hX⟩
      · obtain ⟨rfl, hw⟩ := not_law hA hn
        have hq : (er == 0) = false ∨ (er = 0 ∧ (why = 1 ∨ why = 2)) := by
          rcases hw with h | h
          · exact .inl (beq_eq_false_iff_ne.2 h)
          · exact .inr h
        replace hA := Lib.hid hA
        clear hn hw
        rcases hq with z0 | ⟨rfl, rfl | rfl⟩
        all_goals
          go_enter Tryd.func8, Tryd.ntmps8
          go_wp2_with fail
          refine (law31_aliveO _).mono ?_
          rintro e w1 ⟨rfl, hE1⟩
          have hF1 := hF0.trans hE1
          replace hL := hL.ext hE1
          replace hR := hR.ext hE1
          replace hP := hP.ext hE1
          go_wp2_with fail
          refine (ref28_Great hL).mono ?_
          rintro e w2 ⟨rfl, rfl⟩
          rw [hd.out]
          go_wp2_with fail
          refine (law31_use hP hk tag hL hR).mono ?_
          rintro e w3 ⟨va, rfl, oa, hE3⟩
          have hF3 := hF1.trans hE3
          replace hL := hL.ext hE3
          replace hR := hR.ext hE3
          replace hP := hP.ext hE3
          have ha : Its w3 va [] := by rw [hA.out] at oa; exact oa.its
          rw [hA.out]
          clear oa
          obtain ⟨aa, ca, rfl, hlca, hcma, -⟩ := ha.form
          go_wp2
          go_ret
          exact ⟨rfl, hF3⟩

set_option maxRecDepth 100000 in
theorem guardHolds_contract (H : Type) (enc : TypeId × Value → H) (W : World) (base : Nat) (args : Array Value) (ds gs : List (DataW H)) (before : List MemPlace)
    (hval0 : ∀ (j : Nat) t v, Tryd.f8.params[j]? = some t → args[j]? = some v → Value.okWide Tryd.prog W .any base t v)
    (hW : DataW.Whole enc Tryd.prog Tryd.f8.params.toList Rows.guardHoldsSpec.vars false W args.toList ds gs before) (hL : laidMetH Tryd.prog Rows.guardHoldsRow.laid W) :
    Calls Tryd.prog 8 args W fun e W' => ∃ v, e = .returned v ∧ Rows.guardHoldsSpec.post enc Tryd.prog Tryd.f8 false true false false W args v W' := by
  have hval : ∀ (j : Nat) t v, Tryd.f8.params[j]? = some t → args[j]? = some v → Value.okWide Tryd.prog W .any base t v := hval0
  have hW' := hW
  obtain ⟨p, q, hA0, hV, rfl, hfz, hnd⟩ := hW
  have hA : DataW.TrodAll enc Tryd.prog W 0 (fun _ => true) true Tryd.f8.params.toList args.toList ds p := hA0
  rw [Tryd.params8] at hA hval
  obtain ⟨v0, vs0, d0, ds0, p0, q0, hargs, rfl, rfl, h0, r0⟩ := trodAll_cons hA
  obtain ⟨v1, vs1, d1, ds1, p1, q1, rfl, rfl, rfl, h1, r1⟩ := trodAll_cons r0
  obtain ⟨v2, vs2, d2, ds2, p2, q2, rfl, rfl, rfl, h2, r2⟩ := trodAll_cons r1
  obtain ⟨v3, vs3, d3, ds3, p3, q3, rfl, rfl, rfl, h3, r3⟩ := trodAll_cons r2
  obtain ⟨rfl, rfl, rfl⟩ := trodAll_nil r3
  obtain rfl : args = #[v0, v1, v2, v3] := by cases args; simp_all
  obtain ⟨x0, k0, wf0⟩ := open_items Tryd.underlying23 (hval 0 23 v0 rfl rfl) h0
  obtain ⟨x1, rfl, rfl, rfl, wf1⟩ := open_int Tryd.underlying5 (hval 1 5 v1 rfl rfl) h1
  obtain ⟨x2, rfl, rfl, rfl, wf2⟩ := open_int Tryd.underlying3 (hval 2 3 v2 rfl rfl) h2
  obtain ⟨x3, k3, wf3⟩ := open_ints' Tryd.underlying53 (hval 3 53 v3 rfl rfl) h3
  refine (guardHolds_walk (perms_of_laid hL) (u8B_of wf1) x2 k0 k3).mono fun e W' ⟨he, hb⟩ => ?_
  subst he
  exact ⟨_, rfl, post_law TrydlaidOut (tb := 4) rfl Tryd.underlying4 (by kernel_rfl) rfl (fun ds hd => match ds, hd with | [a0, a1, a2, a3], _ => rfl) hW' hb⟩
theorem guardHolds_met (os : Os) : laidMet Tryd.prog Rows.guardHoldsRow.laid ((doorWorld os).forCall (fun _ _ => 0) ⟨#[], #[.slice none 0 0, .int .u8 0, .int .i64 0, .slice none 0 0], []⟩).memory :=
  laidMet_of_run' 8 (by kernel_rfl) (by kernel_rfl)
theorem guardHolds_reads (os : Os) {H : Type} (enc : TypeId × Value → H) : ∃ places, DataW.whole enc Tryd.prog ((doorWorld os).forCall (fun _ _ => 0) ⟨#[], #[.slice none 0 0, .int .u8 0, .int .i64 0, .slice none 0 0], []⟩).memory Tryd.f8.params.toList Rows.guardHoldsSpec.vars false (#[.slice none 0 0, .int .u8 0, .int .i64 0, .slice none 0 0] : Array Value).toList 8 = some ([.nil, .lit (.int .u8 0), .lit (.int .i64 0), .nil], [], places) :=
  ⟨[], by kernel_rfl⟩
set_option maxRecDepth 100000 in
theorem guardHolds_lifted (os : Os) (started : os.Started) (H : Type) (enc : TypeId × Value → H) (F : Stop.Interp) :
    ReturnsInHanded {} Tryd.checked os 8 .any ((OpenSpec.ofChange Rows.guardHoldsSpec).preRow enc Tryd.prog Tryd.f8 Rows.guardHoldsRow.domain false Rows.guardHoldsRow.laid) (((OpenSpec.ofChange Rows.guardHoldsSpec).at F).post enc Tryd.prog Tryd.f8 false true false false) := by
  obtain ⟨places, hx⟩ := guardHolds_reads os enc
  refine returnsInHanded_of_row (C := Tryd.checked) (s := OpenSpec.ofChange Rows.guardHoldsSpec) Trydown started (by kernel_rfl) Tryd.func8
    (witness_row_at (enc := enc) (C := Tryd.checked) false (doorWorld os) #[.slice none 0 0, .int .u8 0, .int .i64 0, .slice none 0 0] rfl (by kernel_rfl) (by kernel_rfl) (by kernel_rfl)
      (OpenSpec.preRow_of_cond 8 hx (by kernel_rfl) (fun k hk => by cases hk) (by kernel_rfl) (guardHolds_met os))) ?_
  intro W base args ds gs before hval hW _ _ _ hL _ _
  exact guardHolds_contract H enc W base args ds gs before hval hW hL
theorem guardHolds_said : Rows.GuardHoldsSaid :=
  OpenClaim.holds_of_cond 8 Tryd.f8 rfl rfl rfl rfl rfl rfl rfl ⟨rfl, rfl, rfl, rfl, rfl⟩ rfl rfl rfl rfl rfl (by kernel_rfl) Tryd.func8 (by kernel_rfl)
    (of_decide_eq_true (by kernel_rfl)) (by unfold Func.isWrapper; first | (rw [if_pos (by decide +kernel)]; kernel_rfl) | (rw [if_neg (by decide +kernel)]; exact ⟨rfl, rfl⟩))
    (fun os started H enc _ F => by rw [OpenClaim.pre_eq_preRow]; exact guardHolds_lifted os started H enc F)
theorem guardHolds_plain (f : FuncId) (fn : Func) (hf : Tryd.pinned.checked.prog.funcNamed "pawnshop/pawnshoplaw31.GuardHolds" = some f) (hfn : Tryd.pinned.checked.prog.funcs[f]? = some fn) :
    false = Tryd.pinned.checked.prog.looks [] ∧ ∀ (j : Nat) t, fn.params[j]? = some t → Tryd.pinned.checked.prog.wantsStandIn t = false := by
  obtain rfl : f = 8 := Option.some.inj ((show Tryd.prog.funcNamed "pawnshop/pawnshoplaw31.GuardHolds" = some 8 by kernel_rfl).symm.trans hf) |>.symm
  obtain rfl : fn = Tryd.f8 := (Option.some.inj (Tryd.func8.symm.trans hfn)).symm
  refine ⟨by kernel_rfl, fun j t ht => ?_⟩
  have hm : t ∈ Tryd.f8.params.toList := by simpa using Array.mem_of_getElem? ht
  have hall : (Tryd.f8.params.toList.all fun u => !Tryd.prog.wantsStandIn u) = true := by kernel_rfl
  exact (show Tryd.prog.wantsStandIn t = false by simpa using List.all_eq_true.1 hall t hm)
theorem guardHolds_card : Rows.GuardHoldsCardSaid :=
  Claim7.holds_tied_plain_at .later [] _ _ _ _ guardHolds_said (fun _ h => by cases h) (by kernel_rfl) (fun _ h => by cases h) guardHolds_row_tie rfl ⟨rfl, rfl⟩ (by kernel_rfl) rfl guardHolds_plain (by kernel_rfl)

end Go.Proofs.YtfhbgjbbahienaaDoor
