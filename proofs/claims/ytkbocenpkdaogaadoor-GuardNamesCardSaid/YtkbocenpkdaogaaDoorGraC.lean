/- Contracts: grant.Perm, grant.Retag, the reference's Tagged and Retag (layer 30). -/
import Derived.Test.YtkbocenpkdaogaaDoorGraB
namespace Go.Proofs.YtkbocenpkdaogaaDoor
set_option maxRecDepth 100000
open Go.RowKit

set_option maxHeartbeats 400000 in
theorem grant_Perm {k : Int} {w : World} (hp : Perms w) (hk : u8B k) : Calls Tryd.prog 8 #[.int .u8 k] w fun e w' => e = .returned (.tuple #[.int .u8 (permR k), .int .i64 (kindErr k)]) ∧ w = w' := by
  cases h : kindOk k
  · have hr := Lib.hid (kindErr_no h)
    have hq : Hid (permR k = 0) := Hid.mk (by simp [permR, h])
    clear h hp
    go_enter Tryd.func8, Tryd.ntmps8
    go_wp2_with fail
    refine (grant_Check _ hk).mono ?_
    rintro e w1 ⟨rfl, rfl⟩
    rw [hr.out]
    go_wp2
    go_ret2
    exact ⟨by rw [hr.out, hq.out] <;> rfl, rfl⟩
  · have hr := Lib.hid (kindErr_yes h)
    have hq : Hid (permR k = permOf k) := Hid.mk (by simp [permR, h])
    obtain ⟨p0, p1, p2, p3, p4⟩ := hp
    rcases kind_yes h with rfl | rfl | rfl | rfl
    all_goals
      clear h
      go_enter Tryd.func8, Tryd.ntmps8
      go_wp2_with fail
      refine (grant_Check _ hk).mono ?_
      rintro e w1 ⟨rfl, rfl⟩
      rw [hr.out]
      go_wp2
      go_ret2
      exact ⟨by rw [hr.out, hq.out]; rfl, rfl⟩

theorem retUO_errs {w w' : World} {r : List Item × List Item × Int × Int} {why n : Int} (h : r = ([], [], why, n)) (hE : Ext w w') : RetUO w r.1 r.2.1 r.2.2.1 r.2.2.2 (.returned (.tuple #[.slice none 0 0, .slice none 0 0, .int .u8 why, .int .i64 n])) w' := by
  rw [h]
  exact RetUO.none hE

set_option maxHeartbeats 1600000 in
theorem grant_RetagO {l : List Item} {k : Int} {v : Value} {w : World} (hp : Perms w) (hk : u8B k) (old : Int) (x : Item) (hl : Its w v l) :
    Calls Tryd.prog 10 #[v, .int .u8 k, .int .i64 old, x.val] w (RetUO w (retagR l k old x).1 (retagR l k old x).2.1 (retagR l k old x).2.2.1 (retagR l k old x).2.2.2) := by
  obtain ⟨a, cp, rfl, -⟩ := hl.form
  obtain ⟨xp, xt, xc⟩ := x
  unfold Item.val
  have bX := Box.new w 23 #[.int .u8 xp, .int .i64 xt, .int .i64 xc]
  have hF : Ext w (w.alloc (.cells #[.int .u8 xp, .int .i64 xt, .int .i64 xc] 23)) := (Ext.refl _).alloc _
  have hL := Lib.hid (hl.ext hF)
  have hP := Lib.hid (hp.ext hF)
  clear hl hp
  cases hok : okS l
  · have h8 : Hid (chk l = 8) := Hid.mk (by simp [chk, hok])
    have hres := Lib.hid (retagR_bad (k := k) (old := old) (x := ⟨xp, xt, xc⟩) hok)
    clear hok bX
    go_enter Tryd.func10, Tryd.ntmps10
    go_wp2_with fail
    refine (items_Check hL.out).mono ?_
    rintro e w1 ⟨rfl, hE1⟩
    rw [h8.out]
    go_wp2
    refine bodyPost_ret (results_tmp4 rfl _ _ _) rfl ?_
    exact retUO_errs hres.out (hF.trans hE1)
  · have h0 : Hid (chk l = 0) := Hid.mk (by simp [chk, hok])
    cases ha : kindOk k && argOk ⟨xp, xt, xc⟩
    · have hres := Lib.hid (retagR_arg (old := old) hok ha)
      clear hok
      have hcase : (kindErr k = 2) ∨ (kindErr k = 0 ∧ ((xp != 0) = true ∨ ((xp != 0) = false ∧ (decide (xt < 0) = true ∨ (decide (xt < 0) = false ∧ (decide (1000000 < xt) = true ∨ (decide (1000000 < xt) = false ∧ (decide (xc < 0) = true ∨ (decide (xc < 0) = false ∧ decide (1000000 < xc) = true))))))))) := by
        cases h1 : kindOk k
        · exact .inl (kindErr_no h1)
        · refine .inr ⟨kindErr_yes h1, ?_⟩
          rw [h1, Bool.true_and] at ha
          unfold argOk inB at ha
          simp only [Bool.and_eq_false_iff, beq_eq_false_iff_ne, decide_eq_false_iff_not, decide_eq_true_eq, bne_iff_ne, bne_eq_false_iff_eq] at ha ⊢
          omega
      clear ha
      rcases hcase with q | ⟨q, q0 | ⟨q0, q1 | ⟨q1, q2 | ⟨q2, q3 | ⟨q3, q4⟩⟩⟩⟩⟩
      all_goals
        replace q := Lib.hid q
        go_enter Tryd.func10, Tryd.ntmps10
        go_wp2_with fail
        refine (items_Check hL.out).mono ?_
        rintro e w1 ⟨rfl, hE1⟩
        rw [h0.out]
        replace bX := bX.ext hE1
        go_wp2_with fail
        refine (grant_Writes _ hk).mono ?_
        rintro e w2 ⟨rfl, hE2⟩
        rw [q.out]
        replace bX := bX.ext hE2
        have b0 := bX.cell 0; have b1 := bX.cell 1; have b2 := bX.cell 2
        go_wp2
        refine bodyPost_ret (results_tmp4 rfl _ _ _) rfl ?_
        exact retUO_errs hres.out ((hF.trans hE1).trans hE2)
    · have hres0 : Hid (usedW l old (writesOf k) ≠ 0 → retagR l k old ⟨xp, xt, xc⟩ = ([], [], usedW l old (writesOf k), 0)) := Hid.mk (retagR_no hok ha)
      have hres1 : Hid (usedW l old (writesOf k) = 0 → (usedL l old (writesOf k)).length = 600 → retagR l k old ⟨xp, xt, xc⟩ = ([], [], 0, 18)) := Hid.mk (retagR_full hok ha)
      have hres2 : Hid (usedW l old (writesOf k) = 0 → ¬ (usedL l old (writesOf k)).length = 600 → retagR l k old ⟨xp, xt, xc⟩ = (usedL l old (writesOf k) ++ [⟨permOf k, xt, xc⟩], usedG l old (writesOf k), 0, 0)) := Hid.mk (retagR_yes hok ha)
      rw [Bool.and_eq_true] at ha
      have hnew := Lib.hid (newItem_ok (k := k) ha.2)
      have hUok : Hid (∀ wb, okS (usedL l old wb) = true) := Hid.mk (fun wb => usedL_ok hok)
      have q := Lib.hid (kindErr_yes ha.1)
      have hKind := Lib.hid ha.1
      have hacc : Hid (∀ wb, accL l old wb = usedL l old wb ∧ accG l old wb = usedG l old wb ∧ accW l old wb = usedW l old wb ∧ chk l = 0) := Hid.mk (fun wb => by simp [accL, accG, accW, chk, hok])
      have ha2 := ha.2
      unfold argOk inB at ha2
      simp only [Bool.and_eq_true, beq_iff_eq, decide_eq_true_eq] at ha2
      obtain ⟨⟨rfl, hx1, hx2⟩, hx3, hx4⟩ := ha2
      have q1 : decide (xt < 0) = false := decide_eq_false (by omega)
      have q2 : decide (1000000 < xt) = false := decide_eq_false (by omega)
      have q3 : decide (xc < 0) = false := decide_eq_false (by omega)
      have q4 : decide (1000000 < xc) = false := decide_eq_false (by omega)
      clear hok ha hx1 hx2 hx3 hx4
      obtain ⟨wb, hwb⟩ : ∃ wb, writesOf k = wb := ⟨_, rfl⟩
      rw [hwb] at hres0 hres1 hres2
      replace hwb := Lib.hid hwb
      rcases usedW_cases l old wb with ⟨hu, -⟩ | ⟨hu, -⟩
      · have hu' := Lib.hid hu
        by_cases hf : (usedL l old wb).length = 600
        · have hres := Lib.hid (hres1.out hu hf)
          have hpe : Hid (pushErr (usedL l old wb) ⟨permOf k, xt, xc⟩ = 18) := Hid.mk (by simp [pushErr, hUok.out wb, hnew.out, hf])
          have hpo : Hid (pushOf (usedL l old wb) ⟨permOf k, xt, xc⟩ = []) := Hid.mk (by simp [pushOf, hpe.out])
          clear hu hf hres0 hres1 hres2
          cases wb
          ·
            go_enter Tryd.func10, Tryd.ntmps10
            go_wp2_with fail
            refine (items_Check hL.out).mono ?_
            rintro e w1 ⟨rfl, hE1⟩
            rw [h0.out]
            replace bX := bX.ext hE1
            go_wp2_with fail
            refine (grant_Writes _ hk).mono ?_
            rintro e w2 ⟨rfl, hE2⟩
            rw [q.out, hwb.out]
            replace bX := bX.ext hE2
            have b0 := bX.cell 0; have b1 := bX.cell 1; have b2 := bX.cell 2
            go_wp2_with fail
            refine (access_ReadO old ((hL.out.ext hE1).ext hE2)).mono ?_
            rintro e w3 ⟨v3, u3, rfl, hv3, hu3, hd3, hE3⟩
            obtain ⟨e1, e2, e3, e4⟩ := hacc.out false
            rw [e1] at hv3; rw [e2] at hu3; rw [e3, e4, hu'.out]
            clear e1 e2 e3 e4
            replace hd3 := Lib.hid hd3
            have hF3 := ((hF.trans hE1).trans hE2).trans hE3
            have hs0 : w.heap.size < w3.heap.size := Nat.lt_of_lt_of_le (by simp) (((hE1.trans hE2).trans hE3).size)
            replace bX := bX.ext hE3
            have hPm := (((hP.out.ext hE1).ext hE2).ext hE3)
            have hcell := hPm.at hKind.out
            have hk5 : 0 ≤ k ∧ k < 5 := by rcases kind_yes hKind.out with h | h | h | h <;> omega
            clear hPm b0 b1 b2
            have b0 := bX.cell 0; have b1 := bX.cell 1; have b2 := bX.cell 2; have hfr := bX.frozen 0
            obtain ⟨a3, c3, rfl, -⟩ := (Own.sl hv3).slice_form
            obtain ⟨a4, c4, rfl, -⟩ := (Own.sl hu3).slice_form
            go_wp2_with fail
            have hw2 : w.heap.size < w2.heap.size := Nat.lt_of_lt_of_le (by simp) ((hE1.trans hE2).size)
            have hS : ExtBut (· = w.heap.size) w3 (w3.setCell ⟨w.heap.size, 0, none⟩ (.int .u8 (permOf k))) := ExtBut.setCell w3 ⟨w.heap.size, 0, none⟩ _
            replace hF3 : Ext w (w3.setCell ⟨w.heap.size, 0, none⟩ (.int .u8 (permOf k))) := hF3.setCell (Nat.le_refl _) _
            replace hv3 := ExtBut.own hv3 hS (fun g hg e => by have := (hv3.lt hg).1; omega)
            replace hu3 := ExtBut.own hu3 hS (fun g hg e => by have := (hu3.lt hg).1; omega)
            clear hS
            obtain ⟨w4, hw4⟩ : ∃ x, w3.setCell ⟨w.heap.size, 0, none⟩ (.int .u8 (permOf k)) = x := ⟨_, rfl⟩
            rw [hw4] at hF3 hv3 hu3 ⊢
            clear hw4
            refine (items_Push ⟨permOf k, xt, xc⟩ (Own.sl hv3)).mono ?_
            rintro e w5 ⟨v5, rfl, hv5, hE5⟩
            rw [hpe.out]
            rw [hpo.out] at hv5
            obtain ⟨a5, c5, rfl, -⟩ := (Own.sl hv5).slice_form
            go_wp2
            refine bodyPost_ret (results_tmp4 rfl _ _ _) rfl ?_
            exact retUO_errs hres.out (hF3.trans hE5)
          ·
            go_enter Tryd.func10, Tryd.ntmps10
            go_wp2_with fail
            refine (items_Check hL.out).mono ?_
            rintro e w1 ⟨rfl, hE1⟩
            rw [h0.out]
            replace bX := bX.ext hE1
            go_wp2_with fail
            refine (grant_Writes _ hk).mono ?_
            rintro e w2 ⟨rfl, hE2⟩
            rw [q.out, hwb.out]
            replace bX := bX.ext hE2
            have b0 := bX.cell 0; have b1 := bX.cell 1; have b2 := bX.cell 2
            go_wp2_with fail
            refine (access_WriteO old ((hL.out.ext hE1).ext hE2)).mono ?_
            rintro e w3 ⟨v3, u3, rfl, hv3, hu3, hd3, hE3⟩
            obtain ⟨e1, e2, e3, e4⟩ := hacc.out true
            rw [e1] at hv3; rw [e2] at hu3; rw [e3, e4, hu'.out]
            clear e1 e2 e3 e4
            replace hd3 := Lib.hid hd3
            have hF3 := ((hF.trans hE1).trans hE2).trans hE3
            have hs0 : w.heap.size < w3.heap.size := Nat.lt_of_lt_of_le (by simp) (((hE1.trans hE2).trans hE3).size)
            replace bX := bX.ext hE3
            have hPm := (((hP.out.ext hE1).ext hE2).ext hE3)
            have hcell := hPm.at hKind.out
            have hk5 : 0 ≤ k ∧ k < 5 := by rcases kind_yes hKind.out with h | h | h | h <;> omega
            clear hPm b0 b1 b2
            have b0 := bX.cell 0; have b1 := bX.cell 1; have b2 := bX.cell 2; have hfr := bX.frozen 0
            obtain ⟨a3, c3, rfl, -⟩ := (Own.sl hv3).slice_form
            obtain ⟨a4, c4, rfl, -⟩ := (Own.sl hu3).slice_form
            go_wp2_with fail
            have hw2 : w.heap.size < w2.heap.size := Nat.lt_of_lt_of_le (by simp) ((hE1.trans hE2).size)
            have hS : ExtBut (· = w.heap.size) w3 (w3.setCell ⟨w.heap.size, 0, none⟩ (.int .u8 (permOf k))) := ExtBut.setCell w3 ⟨w.heap.size, 0, none⟩ _
            replace hF3 : Ext w (w3.setCell ⟨w.heap.size, 0, none⟩ (.int .u8 (permOf k))) := hF3.setCell (Nat.le_refl _) _
            replace hv3 := ExtBut.own hv3 hS (fun g hg e => by have := (hv3.lt hg).1; omega)
            replace hu3 := ExtBut.own hu3 hS (fun g hg e => by have := (hu3.lt hg).1; omega)
            clear hS
            obtain ⟨w4, hw4⟩ : ∃ x, w3.setCell ⟨w.heap.size, 0, none⟩ (.int .u8 (permOf k)) = x := ⟨_, rfl⟩
            rw [hw4] at hF3 hv3 hu3 ⊢
            clear hw4
            refine (items_Push ⟨permOf k, xt, xc⟩ (Own.sl hv3)).mono ?_
            rintro e w5 ⟨v5, rfl, hv5, hE5⟩
            rw [hpe.out]
            rw [hpo.out] at hv5
            obtain ⟨a5, c5, rfl, -⟩ := (Own.sl hv5).slice_form
            go_wp2
            refine bodyPost_ret (results_tmp4 rfl _ _ _) rfl ?_
            exact retUO_errs hres.out (hF3.trans hE5)
        · obtain ⟨N, hN⟩ : ∃ N, usedL l old wb ++ [⟨permOf k, xt, xc⟩] = N := ⟨_, rfl⟩
          have hres : Hid (retagR l k old ⟨0, xt, xc⟩ = (N, usedG l old wb, 0, 0)) := Hid.mk (by rw [← hN]; exact hres2.out hu hf)
          have hpe : Hid (pushErr (usedL l old wb) ⟨permOf k, xt, xc⟩ = 0) := Hid.mk (by simp [pushErr, hUok.out wb, hnew.out, hf])
          have hpo : Hid (pushOf (usedL l old wb) ⟨permOf k, xt, xc⟩ = N) := Hid.mk (by rw [← hN]; simp [pushOf, hpe.out])
          clear hN hu hf hres0 hres1 hres2
          cases wb
          ·
            go_enter Tryd.func10, Tryd.ntmps10
            go_wp2_with fail
            refine (items_Check hL.out).mono ?_
            rintro e w1 ⟨rfl, hE1⟩
            rw [h0.out]
            replace bX := bX.ext hE1
            go_wp2_with fail
            refine (grant_Writes _ hk).mono ?_
            rintro e w2 ⟨rfl, hE2⟩
            rw [q.out, hwb.out]
            replace bX := bX.ext hE2
            have b0 := bX.cell 0; have b1 := bX.cell 1; have b2 := bX.cell 2
            go_wp2_with fail
            refine (access_ReadO old ((hL.out.ext hE1).ext hE2)).mono ?_
            rintro e w3 ⟨v3, u3, rfl, hv3, hu3, hd3, hE3⟩
            obtain ⟨e1, e2, e3, e4⟩ := hacc.out false
            rw [e1] at hv3; rw [e2] at hu3; rw [e3, e4, hu'.out]
            clear e1 e2 e3 e4
            replace hd3 := Lib.hid hd3
            have hF3 := ((hF.trans hE1).trans hE2).trans hE3
            have hs0 : w.heap.size < w3.heap.size := Nat.lt_of_lt_of_le (by simp) (((hE1.trans hE2).trans hE3).size)
            replace bX := bX.ext hE3
            have hPm := (((hP.out.ext hE1).ext hE2).ext hE3)
            have hcell := hPm.at hKind.out
            have hk5 : 0 ≤ k ∧ k < 5 := by rcases kind_yes hKind.out with h | h | h | h <;> omega
            clear hPm b0 b1 b2
            have b0 := bX.cell 0; have b1 := bX.cell 1; have b2 := bX.cell 2; have hfr := bX.frozen 0
            obtain ⟨a3, c3, rfl, -⟩ := (Own.sl hv3).slice_form
            obtain ⟨a4, c4, rfl, -⟩ := (Own.sl hu3).slice_form
            go_wp2_with fail
            have hw2 : w.heap.size < w2.heap.size := Nat.lt_of_lt_of_le (by simp) ((hE1.trans hE2).size)
            have hS : ExtBut (· = w.heap.size) w3 (w3.setCell ⟨w.heap.size, 0, none⟩ (.int .u8 (permOf k))) := ExtBut.setCell w3 ⟨w.heap.size, 0, none⟩ _
            replace hF3 : Ext w (w3.setCell ⟨w.heap.size, 0, none⟩ (.int .u8 (permOf k))) := hF3.setCell (Nat.le_refl _) _
            replace hv3 := ExtBut.own hv3 hS (fun g hg e => by have := (hv3.lt hg).1; omega)
            replace hu3 := ExtBut.own hu3 hS (fun g hg e => by have := (hu3.lt hg).1; omega)
            clear hS
            obtain ⟨w4, hw4⟩ : ∃ x, w3.setCell ⟨w.heap.size, 0, none⟩ (.int .u8 (permOf k)) = x := ⟨_, rfl⟩
            rw [hw4] at hF3 hv3 hu3 ⊢
            clear hw4
            refine (items_Push ⟨permOf k, xt, xc⟩ (Own.sl hv3)).mono ?_
            rintro e w5 ⟨v5, rfl, hv5, hE5⟩
            rw [hpe.out]
            rw [hpo.out] at hv5
            obtain ⟨a5, c5, rfl, -⟩ := (Own.sl hv5).slice_form
            go_wp2
            refine bodyPost_ret (results_tmp4 rfl _ _ _) rfl ?_
            rw [hres.out]
            exact ⟨_, _, rfl, hv5.mono hF3.size, (hu3.ext hE5).mono (Nat.le_of_lt hw2), fun g hg e => by have h1 := (hv5.lt hg).1; have h2 := (hu3.lt e).2; omega, hF3.trans hE5⟩
          ·
            go_enter Tryd.func10, Tryd.ntmps10
            go_wp2_with fail
            refine (items_Check hL.out).mono ?_
            rintro e w1 ⟨rfl, hE1⟩
            rw [h0.out]
            replace bX := bX.ext hE1
            go_wp2_with fail
            refine (grant_Writes _ hk).mono ?_
            rintro e w2 ⟨rfl, hE2⟩
            rw [q.out, hwb.out]
            replace bX := bX.ext hE2
            have b0 := bX.cell 0; have b1 := bX.cell 1; have b2 := bX.cell 2
            go_wp2_with fail
            refine (access_WriteO old ((hL.out.ext hE1).ext hE2)).mono ?_
            rintro e w3 ⟨v3, u3, rfl, hv3, hu3, hd3, hE3⟩
            obtain ⟨e1, e2, e3, e4⟩ := hacc.out true
            rw [e1] at hv3; rw [e2] at hu3; rw [e3, e4, hu'.out]
            clear e1 e2 e3 e4
            replace hd3 := Lib.hid hd3
            have hF3 := ((hF.trans hE1).trans hE2).trans hE3
            have hs0 : w.heap.size < w3.heap.size := Nat.lt_of_lt_of_le (by simp) (((hE1.trans hE2).trans hE3).size)
            replace bX := bX.ext hE3
            have hPm := (((hP.out.ext hE1).ext hE2).ext hE3)
            have hcell := hPm.at hKind.out
            have hk5 : 0 ≤ k ∧ k < 5 := by rcases kind_yes hKind.out with h | h | h | h <;> omega
            clear hPm b0 b1 b2
            have b0 := bX.cell 0; have b1 := bX.cell 1; have b2 := bX.cell 2; have hfr := bX.frozen 0
            obtain ⟨a3, c3, rfl, -⟩ := (Own.sl hv3).slice_form
            obtain ⟨a4, c4, rfl, -⟩ := (Own.sl hu3).slice_form
            go_wp2_with fail
            have hw2 : w.heap.size < w2.heap.size := Nat.lt_of_lt_of_le (by simp) ((hE1.trans hE2).size)
            have hS : ExtBut (· = w.heap.size) w3 (w3.setCell ⟨w.heap.size, 0, none⟩ (.int .u8 (permOf k))) := ExtBut.setCell w3 ⟨w.heap.size, 0, none⟩ _
            replace hF3 : Ext w (w3.setCell ⟨w.heap.size, 0, none⟩ (.int .u8 (permOf k))) := hF3.setCell (Nat.le_refl _) _
            replace hv3 := ExtBut.own hv3 hS (fun g hg e => by have := (hv3.lt hg).1; omega)
            replace hu3 := ExtBut.own hu3 hS (fun g hg e => by have := (hu3.lt hg).1; omega)
            clear hS
            obtain ⟨w4, hw4⟩ : ∃ x, w3.setCell ⟨w.heap.size, 0, none⟩ (.int .u8 (permOf k)) = x := ⟨_, rfl⟩
            rw [hw4] at hF3 hv3 hu3 ⊢
            clear hw4
            refine (items_Push ⟨permOf k, xt, xc⟩ (Own.sl hv3)).mono ?_
            rintro e w5 ⟨v5, rfl, hv5, hE5⟩
            rw [hpe.out]
            rw [hpo.out] at hv5
            obtain ⟨a5, c5, rfl, -⟩ := (Own.sl hv5).slice_form
            go_wp2
            refine bodyPost_ret (results_tmp4 rfl _ _ _) rfl ?_
            rw [hres.out]
            exact ⟨_, _, rfl, hv5.mono hF3.size, (hu3.ext hE5).mono (Nat.le_of_lt hw2), fun g hg e => by have h1 := (hv5.lt hg).1; have h2 := (hu3.lt e).2; omega, hF3.trans hE5⟩
      · have hu' := Lib.hid hu
        have hres : Hid (retagR l k old ⟨0, xt, xc⟩ = ([], [], 1, 0)) := Hid.mk (by rw [hres0.out (by rw [hu]; decide), hu])
        clear hu hres0 hres1 hres2
        cases wb
        ·
          go_enter Tryd.func10, Tryd.ntmps10
          go_wp2_with fail
          refine (items_Check hL.out).mono ?_
          rintro e w1 ⟨rfl, hE1⟩
          rw [h0.out]
          replace bX := bX.ext hE1
          go_wp2_with fail
          refine (grant_Writes _ hk).mono ?_
          rintro e w2 ⟨rfl, hE2⟩
          rw [q.out, hwb.out]
          replace bX := bX.ext hE2
          have b0 := bX.cell 0; have b1 := bX.cell 1; have b2 := bX.cell 2
          go_wp2_with fail
          refine (access_ReadO old ((hL.out.ext hE1).ext hE2)).mono ?_
          rintro e w3 ⟨v3, u3, rfl, hv3, hu3, hd3, hE3⟩
          obtain ⟨e1, e2, e3, e4⟩ := hacc.out false
          rw [e1] at hv3; rw [e2] at hu3; rw [e3, e4, hu'.out]
          clear e1 e2 e3 e4
          go_wp2
          refine bodyPost_ret (results_tmp4 rfl _ _ _) rfl ?_
          exact retUO_errs hres.out (((hF.trans hE1).trans hE2).trans hE3)
        ·
          go_enter Tryd.func10, Tryd.ntmps10
          go_wp2_with fail
          refine (items_Check hL.out).mono ?_
          rintro e w1 ⟨rfl, hE1⟩
          rw [h0.out]
          replace bX := bX.ext hE1
          go_wp2_with fail
          refine (grant_Writes _ hk).mono ?_
          rintro e w2 ⟨rfl, hE2⟩
          rw [q.out, hwb.out]
          replace bX := bX.ext hE2
          have b0 := bX.cell 0; have b1 := bX.cell 1; have b2 := bX.cell 2
          go_wp2_with fail
          refine (access_WriteO old ((hL.out.ext hE1).ext hE2)).mono ?_
          rintro e w3 ⟨v3, u3, rfl, hv3, hu3, hd3, hE3⟩
          obtain ⟨e1, e2, e3, e4⟩ := hacc.out true
          rw [e1] at hv3; rw [e2] at hu3; rw [e3, e4, hu'.out]
          clear e1 e2 e3 e4
          go_wp2
          refine bodyPost_ret (results_tmp4 rfl _ _ _) rfl ?_
          exact retUO_errs hres.out (((hF.trans hE1).trans hE2).trans hE3)

end Go.Proofs.YtkbocenpkdaogaaDoor
