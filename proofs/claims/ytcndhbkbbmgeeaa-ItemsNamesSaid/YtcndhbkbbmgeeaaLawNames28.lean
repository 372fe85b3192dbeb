/- The statement ItemsNames: the call returns true. No condition. (printed by gen/names28.py) -/
import Derived.Test.YtcndhbkbbmgeeaaNamI
import Derived.Test.YtcndhbkbbmgeeaaTab
import Derived.Test.YtcndhbkbbmgeeaaRead
import Derived.Test.YtcndhbkbbmgeeaaClose
import Derived.Deep.DeepCutAuto
import Derived.Deep.RegionHeld3
namespace Go.Proofs.Ytcndhbkbbmgeeaa
set_option maxRecDepth 100000
open Go.ChangeShapes Go.WideShapes Go.ChangeAt Go.RowKit

set_option maxRecDepth 100000 in
set_option maxHeartbeats 25600000 in
theorem itemsNames_walk {w : World} : Calls Try.prog 3 #[] w fun e w' => e = .returned (.bool true) ∧ Ext w w' := by
  have hmk : ∀ W : World, (Instr.makeSlice 23 (.int .i64 601) (.int .i64 601)).run Try.prog W = .ok (.slice (some ⟨W.heap.size, 0, none⟩) 601 601) (W.alloc (.cells (zitems 601) 25)) := make_Items 601 (by decide)
  have hO := zitems_own 601 (by decide) w (B := w.heap.size) (Nat.le_refl _)
  go_enter Try.func3, Try.ntmps3
  go_wp2
  clear hmk
  obtain ⟨B, hB⟩ : ∃ n, Array.size (World.heap w) = n := ⟨_, rfl⟩
  rw [hB] at hO ⊢
  go_loopw [2] (fun iv wr => ∃ k : Nat, k ≤ 601 ∧ iv = .int .i64 k ∧ Own wr B 25 3 (.slice (some ⟨B, 0, none⟩) 601 601) 601 ((fl28 k).flatMap Item.row) ∧ Ext w wr) (fun iv _ => 601 - (intOf iv).toNat)
  case atStart => exact ⟨0, by omega, rfl, hO, (Ext.refl _).alloc _⟩
  case round =>
    obtain ⟨k, hk, rfl, hW, hX⟩ := hrel
    by_cases hlt : k < 601
    · have hlt' : decide ((k : Int) < 601) = true := decide_eq_true (by omega)
      obtain ⟨x0, hx0⟩ : ∃ x, (fl28 k)[k]? = some x := ⟨(fl28 k)[k]'(by rw [fl28_len hk]; exact hlt), by simp⟩
      have f0 := hW.frozen (k * 3)
      have f1 := hW.frozen (k * 3 + 1)
      have f2 := hW.frozen (k * 3 + 2)
      have c0 : World.cell? wr ⟨B, k * 3, none⟩ = some (.int .u8 x0.p) := (hW.cellAt (k * 3) (by omega)).trans (rows_get Item.row Item.row_len (fl28 k) k 0 _ hx0 (by omega))
      have c1 : World.cell? wr ⟨B, k * 3 + 1, none⟩ = some (.int .i64 x0.t) := (hW.cellAt (k * 3 + 1) (by omega)).trans (rows_get Item.row Item.row_len (fl28 k) k 1 _ hx0 (by omega))
      have c2 : World.cell? wr ⟨B, k * 3 + 2, none⟩ = some (.int .i64 x0.c) := (hW.cellAt (k * 3 + 2) (by omega)).trans (rows_get Item.row Item.row_len (fl28 k) k 2 _ hx0 (by omega))
      have hBl : B < wr.heap.size := (hW.lt (g := B) rfl).2
      have hi0 : (0 : Int) ≤ (k : Int) := by omega
      have hi1 : (k : Int) < 601 := by omega
      replace hx0 := Lib.hid hx0
      go_wp2
      go_roundw
      case rel =>
        have hset := Own.set (Own.set (Own.set hW (k * 3) (.int .u8 3)) (k * 3 + 1) (.int .i64 (k : Int))) (k * 3 + 2) (.int .i64 1)
        rw [row_set (fl28 k) k ⟨3, (k : Int), 1⟩ (by rw [fl28_len hk]; exact hlt), fl28_set hlt] at hset
        exact ⟨k + 1, by omega, by go_num, hset, Ext.setCell (Ext.setCell (Ext.setCell hX (by rw [hB]; exact Nat.le_refl _) _) (by rw [hB]; exact Nat.le_refl _) _) (by rw [hB]; exact Nat.le_refl _) _⟩
      case measure => simp [intOf]; omega
    · have hke : k = 601 := by omega
      subst hke
      rw [fl28_end] at hW
      obtain ⟨F, F600, F599, Y, d1, d2, d3, hbad, l1, l2, l3, p1, p2, p3, p4, p5, p6, Yl, Y5, p7, p8⟩ := data28
      rw [d1] at hW
      have hF : Its wr (.slice (some ⟨B, 0, none⟩) 601 601) F := by
        have h := hW.sl
        unfold Its
        rw [l1]
        exact h
      have hF6 : Its wr (.slice (some ⟨B, 0, none⟩) 600 601) F600 := by rw [← d2]; exact hF.take 600 (by rw [l1]; decide)
      have hF5 : Its wr (.slice (some ⟨B, 0, none⟩) 599 601) F599 := by rw [← d3]; exact hF.take 599 (by rw [l1]; decide)
      have hs6 : ∀ w, (Instr.slice 23 (.slice (some ⟨B, 0, none⟩) 601 601) none (some (.int .i64 600)) none).run Try.prog w = .ok (.slice (some ⟨B, 0, none⟩) 600 601) w := by
        have h := slice_upto_Stack (some ⟨B, 0, none⟩) F 601 600 600 rfl (by decide)
        rw [l1] at h
        exact h
      have hs5 : ∀ w, (Instr.slice 23 (.slice (some ⟨B, 0, none⟩) 601 601) none (some (.int .i64 599)) none).run Try.prog w = .ok (.slice (some ⟨B, 0, none⟩) 599 601) w := by
        have h := slice_upto_Stack (some ⟨B, 0, none⟩) F 601 599 599 rfl (by decide)
        rw [l1] at h
        exact h
      replace hbad := Lib.hid hbad; replace p1 := Lib.hid p1; replace p2 := Lib.hid p2; replace p3 := Lib.hid p3; replace p4 := Lib.hid p4; replace p5 := Lib.hid p5; replace p6 := Lib.hid p6; replace p7 := Lib.hid p7; replace p8 := Lib.hid p8; replace Yl := Lib.hid Yl; replace Y5 := Lib.hid Y5
      clear d1 d2 d3 l1 l2 l3 hW hk hlt
      go_wp2_with fail
      refine (law28_bad (hF.ext (by repeat (first | exact Ext.refl _ | apply Ext.alloc | apply Ext.drew))) hbad.out).mono ?_
      rintro e w11 ⟨rfl, hZ10⟩
      have hE10 : Ext wr w11 := Ext.trans (by repeat (first | exact Ext.refl _ | apply Ext.alloc | apply Ext.drew)) hZ10
      replace hF := hF.ext hE10
      replace hF6 := hF6.ext hE10
      replace hF5 := hF5.ext hE10
      have hF10 := Ext.trans (hX) hE10
      go_wp2_with fail
      refine (law28_bad (l := [⟨0, 0, 0⟩]) (by repeat (first | exact Its.nil _ | exact Its.lit _ _ _ _ _ (by first | (simp; done) | exact hsz.out | (have := hsz.out; simp; omega)) rfl (by simp [maxLen]) rfl | refine Its.ext ?_ (Ext.refl _).drew | refine Its.ext ?_ ((Ext.refl _).alloc _))) (by decide)).mono ?_
      rintro e w12 ⟨rfl, hZ11⟩
      have hE11 : Ext w11 w12 := Ext.trans (by repeat (first | exact Ext.refl _ | apply Ext.alloc | apply Ext.drew)) hZ11
      replace hF := hF.ext hE11
      replace hF6 := hF6.ext hE11
      replace hF5 := hF5.ext hE11
      have hF11 := Ext.trans (hF10) hE11
      go_wp2_with fail
      refine (law28_bad (l := [⟨5, 0, 0⟩]) (by repeat (first | exact Its.nil _ | exact Its.lit _ _ _ _ _ (by first | (simp; done) | exact hsz.out | (have := hsz.out; simp; omega)) rfl (by simp [maxLen]) rfl | refine Its.ext ?_ (Ext.refl _).drew | refine Its.ext ?_ ((Ext.refl _).alloc _))) (by decide)).mono ?_
      rintro e w13 ⟨rfl, hZ12⟩
      have hE12 : Ext w12 w13 := Ext.trans (by repeat (first | exact Ext.refl _ | apply Ext.alloc | apply Ext.drew)) hZ12
      replace hF := hF.ext hE12
      replace hF6 := hF6.ext hE12
      replace hF5 := hF5.ext hE12
      have hF12 := Ext.trans (hF11) hE12
      go_wp2_with fail
      refine (law28_bad (l := [⟨1, -1, 0⟩]) (by repeat (first | exact Its.nil _ | exact Its.lit _ _ _ _ _ (by first | (simp; done) | exact hsz.out | (have := hsz.out; simp; omega)) rfl (by simp [maxLen]) rfl | refine Its.ext ?_ (Ext.refl _).drew | refine Its.ext ?_ ((Ext.refl _).alloc _))) (by decide)).mono ?_
      rintro e w14 ⟨rfl, hZ13⟩
      have hE13 : Ext w13 w14 := Ext.trans (by repeat (first | exact Ext.refl _ | apply Ext.alloc | apply Ext.drew)) hZ13
      replace hF := hF.ext hE13
      replace hF6 := hF6.ext hE13
      replace hF5 := hF5.ext hE13
      have hF13 := Ext.trans (hF12) hE13
      go_wp2_with fail
      refine (law28_bad (l := [⟨1, 1000001, 0⟩]) (by repeat (first | exact Its.nil _ | exact Its.lit _ _ _ _ _ (by first | (simp; done) | exact hsz.out | (have := hsz.out; simp; omega)) rfl (by simp [maxLen]) rfl | refine Its.ext ?_ (Ext.refl _).drew | refine Its.ext ?_ ((Ext.refl _).alloc _))) (by decide)).mono ?_
      rintro e w15 ⟨rfl, hZ14⟩
      have hE14 : Ext w14 w15 := Ext.trans (by repeat (first | exact Ext.refl _ | apply Ext.alloc | apply Ext.drew)) hZ14
      replace hF := hF.ext hE14
      replace hF6 := hF6.ext hE14
      replace hF5 := hF5.ext hE14
      have hF14 := Ext.trans (hF13) hE14
      go_wp2_with fail
      refine (law28_bad (l := [⟨1, 0, -1⟩]) (by repeat (first | exact Its.nil _ | exact Its.lit _ _ _ _ _ (by first | (simp; done) | exact hsz.out | (have := hsz.out; simp; omega)) rfl (by simp [maxLen]) rfl | refine Its.ext ?_ (Ext.refl _).drew | refine Its.ext ?_ ((Ext.refl _).alloc _))) (by decide)).mono ?_
      rintro e w16 ⟨rfl, hZ15⟩
      have hE15 : Ext w15 w16 := Ext.trans (by repeat (first | exact Ext.refl _ | apply Ext.alloc | apply Ext.drew)) hZ15
      replace hF := hF.ext hE15
      replace hF6 := hF6.ext hE15
      replace hF5 := hF5.ext hE15
      have hF15 := Ext.trans (hF14) hE15
      go_wp2_with fail
      refine (law28_bad (l := [⟨1, 0, 0⟩, ⟨1, 0, 1000001⟩]) (by repeat (first | exact Its.nil _ | exact Its.lit _ _ _ _ _ (by first | (simp; done) | exact hsz.out | (have := hsz.out; simp; omega)) rfl (by simp [maxLen]) rfl | refine Its.ext ?_ (Ext.refl _).drew | refine Its.ext ?_ ((Ext.refl _).alloc _))) (by decide)).mono ?_
      rintro e w17 ⟨rfl, hZ16⟩
      have hE16 : Ext w16 w17 := Ext.trans (by repeat (first | exact Ext.refl _ | apply Ext.alloc | apply Ext.drew)) hZ16
      replace hF := hF.ext hE16
      replace hF6 := hF6.ext hE16
      replace hF5 := hF5.ext hE16
      have hF16 := Ext.trans (hF15) hE16
      go_wp2_with fail
      have bG := Box.new w17 25 #[.int .u8 4, .int .i64 1000000, .int .i64 1000000]
      have hsz : Hid ((World.alloc w17 (.cells #[.int .u8 4, .int .i64 1000000, .int .i64 1000000] 25)).heap.size = w17.heap.size + 1) := Hid.mk (by simp)
      have hx17 : Ext w17 (World.alloc w17 (.cells #[.int .u8 4, .int .i64 1000000, .int .i64 1000000] 25)) := (Ext.refl _).alloc _
      obtain ⟨w17b, hw17⟩ : ∃ x, World.alloc w17 (.cells #[.int .u8 4, .int .i64 1000000, .int .i64 1000000] 25) = x := ⟨_, rfl⟩
      rw [hw17] at hsz bG hx17 ⊢
      clear hw17
      replace hF := hF.ext hx17
      replace hF6 := hF6.ext hx17
      replace hF5 := hF5.ext hx17
      have hF17 := Ext.trans (hF16) hx17
      refine (items_Base (-1) _).mono ?_
      rintro e w19 ⟨vhz, rfl, ohz, hZ18⟩
      have hE18 : Ext w17b w19 := Ext.trans (by repeat (first | exact Ext.refl _ | apply Ext.alloc | apply Ext.drew)) hZ18
      replace hF := hF.ext hE18
      replace hF6 := hF6.ext hE18
      replace hF5 := hF5.ext hE18
      replace bG := bG.ext hE18
      have hF18 := Ext.trans (hF17) hE18
      have hz : Its w19 vhz [] := Own.sl ohz
      rw [show baseErr (-1) = 2 from rfl]
      obtain ⟨ahz, chz, rfl, -⟩ := hz.form
      clear ohz
      dsimp only at hz ⊢
      clear hz
      have bG_0 : World.cell? w19 ⟨w17.heap.size, 0, none⟩ = some (.int .u8 4) := bG.cell 0
      have bG_1 : World.cell? w19 ⟨w17.heap.size, 1, none⟩ = some (.int .i64 1000000) := bG.cell 1
      have bG_2 : World.cell? w19 ⟨w17.heap.size, 2, none⟩ = some (.int .i64 1000000) := bG.cell 2
      have bG_l := bG.lt
      go_wp2_with fail
      clear bG_0 bG_1 bG_2 bG_l
      refine (items_Base (1000001) _).mono ?_
      rintro e w20 ⟨vhz, rfl, ohz, hZ19⟩
      have hE19 : Ext w19 w20 := Ext.trans (by repeat (first | exact Ext.refl _ | apply Ext.alloc | apply Ext.drew)) hZ19
      replace hF := hF.ext hE19
      replace hF6 := hF6.ext hE19
      replace hF5 := hF5.ext hE19
      replace bG := bG.ext hE19
      have hF19 := Ext.trans (hF18) hE19
      have hz : Its w20 vhz [] := Own.sl ohz
      rw [show baseErr (1000001) = 2 from rfl]
      obtain ⟨ahz, chz, rfl, -⟩ := hz.form
      clear ohz
      dsimp only at hz ⊢
      clear hz
      have bG_0 : World.cell? w20 ⟨w17.heap.size, 0, none⟩ = some (.int .u8 4) := bG.cell 0
      have bG_1 : World.cell? w20 ⟨w17.heap.size, 1, none⟩ = some (.int .i64 1000000) := bG.cell 1
      have bG_2 : World.cell? w20 ⟨w17.heap.size, 2, none⟩ = some (.int .i64 1000000) := bG.cell 2
      have bG_l := bG.lt
      go_wp2_with fail
      clear bG_0 bG_1 bG_2 bG_l
      refine (items_Base (1000000) _).mono ?_
      rintro e w21 ⟨vhx, rfl, ohx, hZ20⟩
      have hE20 : Ext w20 w21 := Ext.trans (by repeat (first | exact Ext.refl _ | apply Ext.alloc | apply Ext.drew)) hZ20
      replace hF := hF.ext hE20
      replace hF6 := hF6.ext hE20
      replace hF5 := hF5.ext hE20
      replace bG := bG.ext hE20
      have hF20 := Ext.trans (hF19) hE20
      have hx : Its w21 vhx [⟨1, 1000000, 0⟩] := Own.sl ohx
      rw [show baseErr (1000000) = 0 from rfl]
      obtain ⟨ahx, chx, rfl, -⟩ := hx.form
      clear ohx
      dsimp only at hx ⊢
      have bG_0 : World.cell? w21 ⟨w17.heap.size, 0, none⟩ = some (.int .u8 4) := bG.cell 0
      have bG_1 : World.cell? w21 ⟨w17.heap.size, 1, none⟩ = some (.int .i64 1000000) := bG.cell 1
      have bG_2 : World.cell? w21 ⟨w17.heap.size, 2, none⟩ = some (.int .i64 1000000) := bG.cell 2
      have bG_l := bG.lt
      go_upto_region 11 with fail
      clear bG_0 bG_1 bG_2 bG_l
      go_cut [11, 12] from 87 to 93 (fun _ s2 wx => s2 = .int .i64 18 ∧ Ext w21 wx)
      case first =>
        have bG_0 : World.cell? w21 ⟨w17.heap.size, 0, none⟩ = some (.int .u8 4) := bG.cell 0
        have bG_1 : World.cell? w21 ⟨w17.heap.size, 1, none⟩ = some (.int .i64 1000000) := bG.cell 1
        have bG_2 : World.cell? w21 ⟨w17.heap.size, 2, none⟩ = some (.int .i64 1000000) := bG.cell 2
        have hSk : ∀ w' w'' : World, (w'.cell? ⟨w17.heap.size, 0, none⟩ = some (.int .u8 4) ∧ w'.cell? ⟨w17.heap.size, 1, none⟩ = some (.int .i64 1000000) ∧ w'.cell? ⟨w17.heap.size, 2, none⟩ = some (.int .i64 1000000) ∧ Ext w21 w') → Ext w' w'' → (w''.cell? ⟨w17.heap.size, 0, none⟩ = some (.int .u8 4) ∧ w''.cell? ⟨w17.heap.size, 1, none⟩ = some (.int .i64 1000000) ∧ w''.cell? ⟨w17.heap.size, 2, none⟩ = some (.int .i64 1000000) ∧ Ext w21 w'') := by
          rintro w' w'' ⟨k0, k1, k2, kE⟩ h
          exact ⟨h.cell k0, h.cell k1, h.cell k2, Ext.trans kE h⟩
        go_region_held3 (fun w' => (w'.cell? ⟨w17.heap.size, 0, none⟩ = some (.int .u8 4) ∧ w'.cell? ⟨w17.heap.size, 1, none⟩ = some (.int .i64 1000000) ∧ w'.cell? ⟨w17.heap.size, 2, none⟩ = some (.int .i64 1000000) ∧ Ext w21 w')) (first | assumption | exact ⟨Ext.cell hB11 bG_0, Ext.cell hB11 bG_1, Ext.cell hB11 bG_2, hB11⟩ | exact ⟨Ext.cell (Ext.drew hB11) bG_0, Ext.cell (Ext.drew hB11) bG_1, Ext.cell (Ext.drew hB11) bG_2, (Ext.drew hB11)⟩ | exact ⟨bG_0, bG_1, bG_2, (Ext.refl _).drew⟩ | (refine hSk _ _ (by assumption) ?_; first | assumption | exact (Ext.refl _).alloc _ | exact ((Ext.refl _).alloc _).drew)) (first | (go_at_call 10; refine (items_Push good28 (hF6.ext (by repeat (first | exact Ext.refl _ | exact And.right (And.right (And.right (by assumption))) | assumption | apply Ext.alloc | apply Ext.drew)))).mono ?_; rintro e wd ⟨vz, rfl, oz, hD11⟩; rw [p1.out] at oz; rw [p2.out]; (have hzz : Its wd vz [] := Own.sl oz); obtain ⟨az, cz, rfl, -⟩ := hzz.form; (have hB11 : Ext w21 wd := (by refine Ext.trans ?_ hD11; exact And.right (And.right (And.right (by assumption)))))))
        all_goals
          go_wp2_with fail
          go_meet
          exact ⟨rfl, (by first | assumption | exact hB11 | exact (Ext.drew hB11))⟩
      case rest =>
        obtain ⟨rfl, hG11⟩ := hcut
        obtain ⟨wq11, hwq⟩ : ∃ z, wc = z := ⟨_, rfl⟩
        rw [hwq] at hG11 ⊢
        clear hwq
        replace hF := hF.ext hG11
        replace hF6 := hF6.ext hG11
        replace hF5 := hF5.ext hG11
        replace bG := bG.ext hG11
        replace hx := hx.ext hG11
        have hF21 := Ext.trans (hF20) hG11
        have bG_0 : World.cell? wq11 ⟨w17.heap.size, 0, none⟩ = some (.int .u8 4) := bG.cell 0
        have bG_1 : World.cell? wq11 ⟨w17.heap.size, 1, none⟩ = some (.int .i64 1000000) := bG.cell 1
        have bG_2 : World.cell? wq11 ⟨w17.heap.size, 2, none⟩ = some (.int .i64 1000000) := bG.cell 2
        have bG_l := bG.lt
        go_wp2_with fail
        clear bG_0 bG_1 bG_2 bG_l
        refine (items_Push ⟨0, 0, 0⟩ (hF6.ext (by repeat (first | exact Ext.refl _ | apply Ext.alloc | apply Ext.drew)))).mono ?_
        rintro e w23 ⟨vhz, rfl, ohz, hZ22⟩
        have hE22 : Ext wq11 w23 := Ext.trans (by repeat (first | exact Ext.refl _ | apply Ext.alloc | apply Ext.drew)) hZ22
        replace hF := hF.ext hE22
        replace hF6 := hF6.ext hE22
        replace hF5 := hF5.ext hE22
        replace bG := bG.ext hE22
        replace hx := hx.ext hE22
        have hF22 := Ext.trans (hF21) hE22
        rw [p3.out] at ohz
        rw [p4.out]
        have hz : Its w23 vhz [] := Own.sl ohz
        obtain ⟨ahz, chz, rfl, -⟩ := hz.form
        clear ohz
        clear hz
        have bG_0 : World.cell? w23 ⟨w17.heap.size, 0, none⟩ = some (.int .u8 4) := bG.cell 0
        have bG_1 : World.cell? w23 ⟨w17.heap.size, 1, none⟩ = some (.int .i64 1000000) := bG.cell 1
        have bG_2 : World.cell? w23 ⟨w17.heap.size, 2, none⟩ = some (.int .i64 1000000) := bG.cell 2
        have bG_l := bG.lt
        go_upto_region 13 with fail
        clear bG_0 bG_1 bG_2 bG_l
        go_cut [15, 16] from 101 to 107 (fun s1 s2 wx => (∃ a c, s1 = .slice a Y.length c ∧ Its wx (.slice a Y.length c) Y) ∧ s2 = .int .i64 0 ∧ Ext w23 wx)
        case first =>
          have bG_0 : World.cell? w23 ⟨w17.heap.size, 0, none⟩ = some (.int .u8 4) := bG.cell 0
          have bG_1 : World.cell? w23 ⟨w17.heap.size, 1, none⟩ = some (.int .i64 1000000) := bG.cell 1
          have bG_2 : World.cell? w23 ⟨w17.heap.size, 2, none⟩ = some (.int .i64 1000000) := bG.cell 2
          have hSk : ∀ w' w'' : World, (w'.cell? ⟨w17.heap.size, 0, none⟩ = some (.int .u8 4) ∧ w'.cell? ⟨w17.heap.size, 1, none⟩ = some (.int .i64 1000000) ∧ w'.cell? ⟨w17.heap.size, 2, none⟩ = some (.int .i64 1000000) ∧ Ext w23 w') → Ext w' w'' → (w''.cell? ⟨w17.heap.size, 0, none⟩ = some (.int .u8 4) ∧ w''.cell? ⟨w17.heap.size, 1, none⟩ = some (.int .i64 1000000) ∧ w''.cell? ⟨w17.heap.size, 2, none⟩ = some (.int .i64 1000000) ∧ Ext w23 w'') := by
            rintro w' w'' ⟨k0, k1, k2, kE⟩ h
            exact ⟨h.cell k0, h.cell k1, h.cell k2, Ext.trans kE h⟩
          go_region_held3 (fun w' => (w'.cell? ⟨w17.heap.size, 0, none⟩ = some (.int .u8 4) ∧ w'.cell? ⟨w17.heap.size, 1, none⟩ = some (.int .i64 1000000) ∧ w'.cell? ⟨w17.heap.size, 2, none⟩ = some (.int .i64 1000000) ∧ Ext w23 w')) (first | assumption | exact ⟨Ext.cell hB13 bG_0, Ext.cell hB13 bG_1, Ext.cell hB13 bG_2, hB13⟩ | exact ⟨Ext.cell (Ext.drew hB13) bG_0, Ext.cell (Ext.drew hB13) bG_1, Ext.cell (Ext.drew hB13) bG_2, (Ext.drew hB13)⟩ | exact ⟨bG_0, bG_1, bG_2, (Ext.refl _).drew⟩ | (refine hSk _ _ (by assumption) ?_; first | assumption | exact (Ext.refl _).alloc _ | exact ((Ext.refl _).alloc _).drew)) (first | (go_at_call 10; refine (items_Push good28 (hF5.ext (by repeat (first | exact Ext.refl _ | exact And.right (And.right (And.right (by assumption))) | assumption | apply Ext.alloc | apply Ext.drew)))).mono ?_; rintro e wd ⟨vz, rfl, oz, hD13⟩; rw [p5.out] at oz; rw [p6.out]; (have hzz : Its wd vz Y := Own.sl oz); obtain ⟨az, cz, rfl, -⟩ := hzz.form; (have hB13 : Ext w23 wd := (by refine Ext.trans ?_ hD13; exact And.right (And.right (And.right (by assumption)))))))
          all_goals
            go_wp2_with fail
            go_meet
            exact ⟨⟨_, _, rfl, (by first | exact hzz | exact hzz.ext (Ext.refl _).drew)⟩, rfl, (by first | assumption | exact hB13 | exact (Ext.drew hB13))⟩
        case rest =>
          obtain ⟨⟨ay, cy, rfl, hy⟩, rfl, hG13⟩ := hcut
          obtain ⟨wq13, hwq⟩ : ∃ z, wc = z := ⟨_, rfl⟩
          rw [hwq] at hG13 hy ⊢
          clear hwq
          replace hF := hF.ext hG13
          replace hF6 := hF6.ext hG13
          replace hF5 := hF5.ext hG13
          replace bG := bG.ext hG13
          replace hx := hx.ext hG13
          have hF23 := Ext.trans (hF22) hG13
          have bG_0 : World.cell? wq13 ⟨w17.heap.size, 0, none⟩ = some (.int .u8 4) := bG.cell 0
          have bG_1 : World.cell? wq13 ⟨w17.heap.size, 1, none⟩ = some (.int .i64 1000000) := bG.cell 1
          have bG_2 : World.cell? wq13 ⟨w17.heap.size, 2, none⟩ = some (.int .i64 1000000) := bG.cell 2
          have bG_l := bG.lt
          go_wp2_with fail
          clear bG_0 bG_1 bG_2 bG_l
          refine (items_Push ⟨5, 0, 0⟩ (Its.nil _)).mono ?_
          rintro e w25 ⟨vhz, rfl, ohz, hZ24⟩
          have hE24 : Ext wq13 w25 := Ext.trans (by repeat (first | exact Ext.refl _ | apply Ext.alloc | apply Ext.drew)) hZ24
          replace hF := hF.ext hE24
          replace hF6 := hF6.ext hE24
          replace hF5 := hF5.ext hE24
          replace bG := bG.ext hE24
          replace hx := hx.ext hE24
          replace hy := hy.ext hE24
          have hF24 := Ext.trans (hF23) hE24
          rw [show pushOf [] ⟨5, 0, 0⟩ = [] from rfl] at ohz
          rw [show pushErr [] ⟨5, 0, 0⟩ = 8 from rfl]
          have hz : Its w25 vhz [] := Own.sl ohz
          obtain ⟨ahz, chz, rfl, -⟩ := hz.form
          clear ohz
          clear hz
          have bG_0 : World.cell? w25 ⟨w17.heap.size, 0, none⟩ = some (.int .u8 4) := bG.cell 0
          have bG_1 : World.cell? w25 ⟨w17.heap.size, 1, none⟩ = some (.int .i64 1000000) := bG.cell 1
          have bG_2 : World.cell? w25 ⟨w17.heap.size, 2, none⟩ = some (.int .i64 1000000) := bG.cell 2
          have bG_l := bG.lt
          go_wp2_with fail
          clear bG_0 bG_1 bG_2 bG_l
          refine (items_Above (0) (Its.nil _)).mono ?_
          rintro e w26 ⟨vhz, rfl, ohz, hZ25⟩
          have hE25 : Ext w25 w26 := Ext.trans (by repeat (first | exact Ext.refl _ | apply Ext.alloc | apply Ext.drew)) hZ25
          replace hF := hF.ext hE25
          replace hF6 := hF6.ext hE25
          replace hF5 := hF5.ext hE25
          replace bG := bG.ext hE25
          replace hx := hx.ext hE25
          replace hy := hy.ext hE25
          have hF25 := Ext.trans (hF24) hE25
          have hz : Its w26 vhz [] := Own.sl ohz
          rw [show atErr [] (0) = 2 from by decide]
          obtain ⟨ahz, chz, rfl, -⟩ := hz.form
          clear ohz
          dsimp only at hz ⊢
          clear hz
          have bG_0 : World.cell? w26 ⟨w17.heap.size, 0, none⟩ = some (.int .u8 4) := bG.cell 0
          have bG_1 : World.cell? w26 ⟨w17.heap.size, 1, none⟩ = some (.int .i64 1000000) := bG.cell 1
          have bG_2 : World.cell? w26 ⟨w17.heap.size, 2, none⟩ = some (.int .i64 1000000) := bG.cell 2
          have bG_l := bG.lt
          go_wp2_with fail
          clear bG_0 bG_1 bG_2 bG_l
          refine (law28_example _).mono ?_
          rintro e w27 ⟨vq, rfl, oq, hZ26⟩
          have hE26 : Ext w26 w27 := Ext.trans (by repeat (first | exact Ext.refl _ | apply Ext.alloc | apply Ext.drew)) hZ26
          replace hF := hF.ext hE26
          replace hF6 := hF6.ext hE26
          replace hF5 := hF5.ext hE26
          replace bG := bG.ext hE26
          replace hx := hx.ext hE26
          replace hy := hy.ext hE26
          have hF26 := Ext.trans (hF25) hE26
          have hq : Its w27 vq exam28 := Own.sl oq
          obtain ⟨aq, cq, rfl, hqc, -⟩ := hq.form
          clear oq
          have bG_0 : World.cell? w27 ⟨w17.heap.size, 0, none⟩ = some (.int .u8 4) := bG.cell 0
          have bG_1 : World.cell? w27 ⟨w17.heap.size, 1, none⟩ = some (.int .i64 1000000) := bG.cell 1
          have bG_2 : World.cell? w27 ⟨w17.heap.size, 2, none⟩ = some (.int .i64 1000000) := bG.cell 2
          have bG_l := bG.lt
          go_wp2_with fail
          clear bG_0 bG_1 bG_2 bG_l
          refine (items_Above (3) (hq.ext (by repeat (first | exact Ext.refl _ | apply Ext.alloc | apply Ext.drew)))).mono ?_
          rintro e w28 ⟨vhz, rfl, ohz, hZ27⟩
          have hE27 : Ext w27 w28 := Ext.trans (by repeat (first | exact Ext.refl _ | apply Ext.alloc | apply Ext.drew)) hZ27
          replace hF := hF.ext hE27
          replace hF6 := hF6.ext hE27
          replace hF5 := hF5.ext hE27
          replace bG := bG.ext hE27
          replace hx := hx.ext hE27
          replace hy := hy.ext hE27
          replace hq := hq.ext hE27
          have hF27 := Ext.trans (hF26) hE27
          have hz : Its w28 vhz [] := Own.sl ohz
          rw [show atErr exam28 (3) = 2 from by decide]
          obtain ⟨ahz, chz, rfl, -⟩ := hz.form
          clear ohz
          dsimp only at hz ⊢
          clear hz
          clear hq
          have bG_0 : World.cell? w28 ⟨w17.heap.size, 0, none⟩ = some (.int .u8 4) := bG.cell 0
          have bG_1 : World.cell? w28 ⟨w17.heap.size, 1, none⟩ = some (.int .i64 1000000) := bG.cell 1
          have bG_2 : World.cell? w28 ⟨w17.heap.size, 2, none⟩ = some (.int .i64 1000000) := bG.cell 2
          have bG_l := bG.lt
          go_wp2_with fail
          clear bG_0 bG_1 bG_2 bG_l
          refine (law28_example _).mono ?_
          rintro e w29 ⟨vq, rfl, oq, hZ28⟩
          have hE28 : Ext w28 w29 := Ext.trans (by repeat (first | exact Ext.refl _ | apply Ext.alloc | apply Ext.drew)) hZ28
          replace hF := hF.ext hE28
          replace hF6 := hF6.ext hE28
          replace hF5 := hF5.ext hE28
          replace bG := bG.ext hE28
          replace hx := hx.ext hE28
          replace hy := hy.ext hE28
          have hF28 := Ext.trans (hF27) hE28
          have hq : Its w29 vq exam28 := Own.sl oq
          obtain ⟨aq, cq, rfl, hqc, -⟩ := hq.form
          clear oq
          have bG_0 : World.cell? w29 ⟨w17.heap.size, 0, none⟩ = some (.int .u8 4) := bG.cell 0
          have bG_1 : World.cell? w29 ⟨w17.heap.size, 1, none⟩ = some (.int .i64 1000000) := bG.cell 1
          have bG_2 : World.cell? w29 ⟨w17.heap.size, 2, none⟩ = some (.int .i64 1000000) := bG.cell 2
          have bG_l := bG.lt
          go_wp2_with fail
          clear bG_0 bG_1 bG_2 bG_l
          refine (items_Below (-1) (hq.ext (by repeat (first | exact Ext.refl _ | apply Ext.alloc | apply Ext.drew)))).mono ?_
          rintro e w30 ⟨vhz, rfl, ohz, hZ29⟩
          have hE29 : Ext w29 w30 := Ext.trans (by repeat (first | exact Ext.refl _ | apply Ext.alloc | apply Ext.drew)) hZ29
          replace hF := hF.ext hE29
          replace hF6 := hF6.ext hE29
          replace hF5 := hF5.ext hE29
          replace bG := bG.ext hE29
          replace hx := hx.ext hE29
          replace hy := hy.ext hE29
          replace hq := hq.ext hE29
          have hF29 := Ext.trans (hF28) hE29
          have hz : Its w30 vhz [] := Own.sl ohz
          rw [show atErr exam28 (-1) = 2 from by decide]
          obtain ⟨ahz, chz, rfl, -⟩ := hz.form
          clear ohz
          dsimp only at hz ⊢
          clear hz
          clear hq
          have bG_0 : World.cell? w30 ⟨w17.heap.size, 0, none⟩ = some (.int .u8 4) := bG.cell 0
          have bG_1 : World.cell? w30 ⟨w17.heap.size, 1, none⟩ = some (.int .i64 1000000) := bG.cell 1
          have bG_2 : World.cell? w30 ⟨w17.heap.size, 2, none⟩ = some (.int .i64 1000000) := bG.cell 2
          have bG_l := bG.lt
          go_wp2_with fail
          clear bG_0 bG_1 bG_2 bG_l
          refine (law28_example _).mono ?_
          rintro e w31 ⟨vq, rfl, oq, hZ30⟩
          have hE30 : Ext w30 w31 := Ext.trans (by repeat (first | exact Ext.refl _ | apply Ext.alloc | apply Ext.drew)) hZ30
          replace hF := hF.ext hE30
          replace hF6 := hF6.ext hE30
          replace hF5 := hF5.ext hE30
          replace bG := bG.ext hE30
          replace hx := hx.ext hE30
          replace hy := hy.ext hE30
          have hF30 := Ext.trans (hF29) hE30
          have hq : Its w31 vq exam28 := Own.sl oq
          obtain ⟨aq, cq, rfl, hqc, -⟩ := hq.form
          clear oq
          have bG_0 : World.cell? w31 ⟨w17.heap.size, 0, none⟩ = some (.int .u8 4) := bG.cell 0
          have bG_1 : World.cell? w31 ⟨w17.heap.size, 1, none⟩ = some (.int .i64 1000000) := bG.cell 1
          have bG_2 : World.cell? w31 ⟨w17.heap.size, 2, none⟩ = some (.int .i64 1000000) := bG.cell 2
          have bG_l := bG.lt
          go_wp2_with fail
          clear bG_0 bG_1 bG_2 bG_l
          refine (items_Above (2) (hq.ext (by repeat (first | exact Ext.refl _ | apply Ext.alloc | apply Ext.drew)))).mono ?_
          rintro e w32 ⟨vhzz, rfl, ohzz, hZ31⟩
          have hE31 : Ext w31 w32 := Ext.trans (by repeat (first | exact Ext.refl _ | apply Ext.alloc | apply Ext.drew)) hZ31
          replace hF := hF.ext hE31
          replace hF6 := hF6.ext hE31
          replace hF5 := hF5.ext hE31
          replace bG := bG.ext hE31
          replace hx := hx.ext hE31
          replace hy := hy.ext hE31
          replace hq := hq.ext hE31
          have hF31 := Ext.trans (hF30) hE31
          have hzz : Its w32 vhzz [] := Own.sl ohzz
          rw [show atErr exam28 (2) = 0 from by decide]
          obtain ⟨ahzz, chzz, rfl, -⟩ := hzz.form
          clear ohzz
          dsimp only at hzz ⊢
          clear hq
          have bG_0 : World.cell? w32 ⟨w17.heap.size, 0, none⟩ = some (.int .u8 4) := bG.cell 0
          have bG_1 : World.cell? w32 ⟨w17.heap.size, 1, none⟩ = some (.int .i64 1000000) := bG.cell 1
          have bG_2 : World.cell? w32 ⟨w17.heap.size, 2, none⟩ = some (.int .i64 1000000) := bG.cell 2
          have bG_l := bG.lt
          go_wp2_with fail
          clear bG_0 bG_1 bG_2 bG_l
          refine (law28_example _).mono ?_
          rintro e w33 ⟨vq, rfl, oq, hZ32⟩
          have hE32 : Ext w32 w33 := Ext.trans (by repeat (first | exact Ext.refl _ | apply Ext.alloc | apply Ext.drew)) hZ32
          replace hF := hF.ext hE32
          replace hF6 := hF6.ext hE32
          replace hF5 := hF5.ext hE32
          replace bG := bG.ext hE32
          replace hx := hx.ext hE32
          replace hy := hy.ext hE32
          replace hzz := hzz.ext hE32
          have hF32 := Ext.trans (hF31) hE32
          have hq : Its w33 vq exam28 := Own.sl oq
          obtain ⟨aq, cq, rfl, hqc, -⟩ := hq.form
          clear oq
          have bG_0 : World.cell? w33 ⟨w17.heap.size, 0, none⟩ = some (.int .u8 4) := bG.cell 0
          have bG_1 : World.cell? w33 ⟨w17.heap.size, 1, none⟩ = some (.int .i64 1000000) := bG.cell 1
          have bG_2 : World.cell? w33 ⟨w17.heap.size, 2, none⟩ = some (.int .i64 1000000) := bG.cell 2
          have bG_l := bG.lt
          go_wp2_with fail
          clear bG_0 bG_1 bG_2 bG_l
          refine (items_Below (0) (hq.ext (by repeat (first | exact Ext.refl _ | apply Ext.alloc | apply Ext.drew)))).mono ?_
          rintro e w34 ⟨vhu, rfl, ohu, hZ33⟩
          have hE33 : Ext w33 w34 := Ext.trans (by repeat (first | exact Ext.refl _ | apply Ext.alloc | apply Ext.drew)) hZ33
          replace hF := hF.ext hE33
          replace hF6 := hF6.ext hE33
          replace hF5 := hF5.ext hE33
          replace bG := bG.ext hE33
          replace hx := hx.ext hE33
          replace hy := hy.ext hE33
          replace hzz := hzz.ext hE33
          replace hq := hq.ext hE33
          have hF33 := Ext.trans (hF32) hE33
          have hu : Its w34 vhu [⟨1, 3, 0⟩] := Own.sl ohu
          rw [show atErr exam28 (0) = 0 from by decide]
          obtain ⟨ahu, chu, rfl, -⟩ := hu.form
          clear ohu
          dsimp only at hu ⊢
          clear hq
          have bG_0 : World.cell? w34 ⟨w17.heap.size, 0, none⟩ = some (.int .u8 4) := bG.cell 0
          have bG_1 : World.cell? w34 ⟨w17.heap.size, 1, none⟩ = some (.int .i64 1000000) := bG.cell 1
          have bG_2 : World.cell? w34 ⟨w17.heap.size, 2, none⟩ = some (.int .i64 1000000) := bG.cell 2
          have bG_l := bG.lt
          go_wp2_with fail
          clear bG_0 bG_1 bG_2 bG_l
          refine (law28_example _).mono ?_
          rintro e w35 ⟨vq, rfl, oq, hZ34⟩
          have hE34 : Ext w34 w35 := Ext.trans (by repeat (first | exact Ext.refl _ | apply Ext.alloc | apply Ext.drew)) hZ34
          replace hF := hF.ext hE34
          replace hF6 := hF6.ext hE34
          replace hF5 := hF5.ext hE34
          replace bG := bG.ext hE34
          replace hx := hx.ext hE34
          replace hy := hy.ext hE34
          replace hzz := hzz.ext hE34
          replace hu := hu.ext hE34
          have hF34 := Ext.trans (hF33) hE34
          have hq : Its w35 vq exam28 := Own.sl oq
          obtain ⟨aq, cq, rfl, hqc, -⟩ := hq.form
          clear oq
          have bG_0 : World.cell? w35 ⟨w17.heap.size, 0, none⟩ = some (.int .u8 4) := bG.cell 0
          have bG_1 : World.cell? w35 ⟨w17.heap.size, 1, none⟩ = some (.int .i64 1000000) := bG.cell 1
          have bG_2 : World.cell? w35 ⟨w17.heap.size, 2, none⟩ = some (.int .i64 1000000) := bG.cell 2
          have bG_l := bG.lt
          go_wp2_with fail
          clear bG_0 bG_1 bG_2 bG_l
          refine (items_Above (9223372036854775807) (hq.ext (by repeat (first | exact Ext.refl _ | apply Ext.alloc | apply Ext.drew)))).mono ?_
          rintro e w36 ⟨vhz, rfl, ohz, hZ35⟩
          have hE35 : Ext w35 w36 := Ext.trans (by repeat (first | exact Ext.refl _ | apply Ext.alloc | apply Ext.drew)) hZ35
          replace hF := hF.ext hE35
          replace hF6 := hF6.ext hE35
          replace hF5 := hF5.ext hE35
          replace bG := bG.ext hE35
          replace hx := hx.ext hE35
          replace hy := hy.ext hE35
          replace hzz := hzz.ext hE35
          replace hu := hu.ext hE35
          replace hq := hq.ext hE35
          have hF35 := Ext.trans (hF34) hE35
          have hz : Its w36 vhz [] := Own.sl ohz
          rw [show atErr exam28 (9223372036854775807) = 2 from by decide]
          obtain ⟨ahz, chz, rfl, -⟩ := hz.form
          clear ohz
          dsimp only at hz ⊢
          clear hz
          clear hq
          have bG_0 : World.cell? w36 ⟨w17.heap.size, 0, none⟩ = some (.int .u8 4) := bG.cell 0
          have bG_1 : World.cell? w36 ⟨w17.heap.size, 1, none⟩ = some (.int .i64 1000000) := bG.cell 1
          have bG_2 : World.cell? w36 ⟨w17.heap.size, 2, none⟩ = some (.int .i64 1000000) := bG.cell 2
          have bG_l := bG.lt
          go_wp2
          clear bG_0 bG_1 bG_2 bG_l
          obtain ⟨yb, yo, rfl, hyl, y0, y1, y2⟩ := hy.cell Y5.out
          have z0 : World.cell? w36 ⟨yb, yo + 1797, none⟩ = some (.int .u8 4) := y0
          have z1 : World.cell? w36 ⟨yb, yo + 1798, none⟩ = some (.int .i64 1000000) := y1
          have z2 : World.cell? w36 ⟨yb, yo + 1799, none⟩ = some (.int .i64 1000000) := y2
          have heq := run_eq_item good28 good28
          simp only [decide_true] at heq
          have heq2 : ∀ w : World, (binOp .eql 25 (.agg #[.int .u8 4, .int .i64 1000000, .int .i64 1000000]) (.agg #[.int .u8 4, .int .i64 1000000, .int .i64 1000000])).run Try.prog w = .ok (.bool true) w := heq
          clear heq y0 y1 y2 hyl
          have yl1 : ((Y.length : Int) == 600) = true := by rw [Yl.out]; rfl
          have yl2 : (Y.length == 600) = true := by rw [Yl.out]; rfl
          have yl3 : 599 < Y.length := by rw [Yl.out]; decide
          have yl4 : (599 : Int) < (Y.length : Int) := by omega
          have bG_0 : World.cell? w36 ⟨w17.heap.size, 0, none⟩ = some (.int .u8 4) := bG.cell 0
          have bG_1 : World.cell? w36 ⟨w17.heap.size, 1, none⟩ = some (.int .i64 1000000) := bG.cell 1
          have bG_2 : World.cell? w36 ⟨w17.heap.size, 2, none⟩ = some (.int .i64 1000000) := bG.cell 2
          refine wp_region_go (L := [Pr.eq (.bool true), Pr.eq (.bool true), Pr.eq (.bool true), Pr.eq (.bool true), Pr.eq (.bool true), Pr.eq (.bool true), Pr.eq (.bool true), Pr.eq (.int .i64 0), Pr.eq (.bool true), Pr.eq (.bool true), Pr.eq (.bool true), Pr.eq (.slice (some ⟨B, 0, none⟩) 601 601), Pr.eq (.slice (some ⟨B, 0, none⟩) 600 601), Pr.eq (.int .i64 0), Pr.eq (.bool true), Pr.eq (.bool true), Pr.eq (.bool true), Pr.eq (.int .i64 2), Pr.eq (.bool true), Pr.eq (.bool true), Pr.eq (.bool true), Pr.eq (.int .i64 2), Pr.eq (.bool true), Pr.eq (.bool true), Pr.eq (.bool true), Pr.eq (.int .i64 0), Pr.eq (.bool true), Pr.eq (.bool true), Pr.eq (.bool true), Pr.eq (.slice ahx 1 chx), Pr.eq (.agg #[.int .u8 1, .int .i64 1000000, .int .i64 0]), PrI [⟨1, 1000000, 0⟩], Pr.eq (.bool true), Pr.eq (.bool true), Pr.eq (.bool true), Pr.eq (.int .i64 18), Pr.eq (.bool true), Pr.eq (.bool true), Pr.eq (.bool true), Pr.eq (.int .i64 8), Pr.eq (.bool true), Pr.eq (.bool true), Pr.eq (.bool true), Pr.eq (.int .i64 0), Pr.eq (.bool true), Pr.eq (.bool true), Pr.eq (.bool true), Pr.eq (.slice (some ⟨yb, yo, none⟩) Y.length cy), Pr.eq (.int .i64 (Y.length : Int)), Pr.eq (.bool true), Pr.eq (.bool true), Pr.eq (.bool true), Pr.eq (.slice (some ⟨yb, yo, none⟩) Y.length cy), Pr.eq (.pointer (some ⟨yb, yo + 1797, none⟩)), Pr.eq (.agg #[.int .u8 4, .int .i64 1000000, .int .i64 1000000]), Pr.eq (.agg #[.int .u8 4, .int .i64 1000000, .int .i64 1000000]), Pr.eq (.bool true), Pr.eq (.bool true), Pr.eq (.bool true), Pr.eq (.int .i64 8), Pr.eq (.bool true), Pr.eq (.bool true), Pr.eq (.bool true), Pr.eq (.int .i64 2), Pr.eq (.bool true), Pr.eq (.bool true), Pr.eq (.bool true), Pr.eq (.int .i64 2), Pr.eq (.bool true), Pr.eq (.bool true), Pr.eq (.bool true), Pr.eq (.int .i64 2), Pr.eq (.bool true), Pr.eq (.bool true), Pr.eq (.bool true), Pr.eq (.int .i64 0), Pr.eq (.bool true), Pr.eq (.bool true), Pr.eq (.bool true), Pr.eq (.slice ahzz 0 chzz), Pr.eq (.int .i64 0), Pr.eq (.bool true), Pr.eq (.bool true), Pr.eq (.bool true), Pr.eq (.int .i64 0), Pr.eq (.bool true), Pr.eq (.bool true), Pr.eq (.bool true), Pr.eq (.slice ahu 1 chu), PrI exam28, PrI [⟨1, 3, 0⟩], Pr.eq (.bool true), Pr.eq (.bool true), Pr.eq (.bool true), Pr.eq (.int .i64 2), Pr.eq (.bool true), Pr.eq (.bool true), Pr.eq (.bool true), Pr.eq (.bool true), Pr.eq (.bool true), Pr.eq (.bool true), Pr.eq (.slice (some ⟨B, 0, none⟩) 601 601), Pr.eq (.slice (some ⟨B, 0, none⟩) 600 601), Pr.eq (.bool true), Pr.eq (.bool true), Pr.eq (.bool true)]) (by kernel_rfl) (by kernel_rfl) ?_ ?_
          · refine ⟨?_, ?_, ?_, ?_, ?_, ?_, ?_, ?_, ?_, ?_, ?_, ?_, ?_, ?_, ?_, ?_, ?_, ?_, ?_, ?_, ?_, ?_, ?_, ?_, ?_, ?_, ?_, ?_, ?_, ?_, ?_, ?_, ?_, ?_, ?_, ?_, ?_, ?_, ?_, ?_, ?_, ?_, ?_, ?_, ?_, ?_, ?_, ?_, ?_, ?_, ?_, ?_, ?_, ?_, ?_, ?_, ?_, ?_, ?_, ?_, ?_, ?_, ?_, ?_, ?_, ?_, ?_, ?_, ?_, ?_, ?_, ?_, ?_, ?_, ?_, ?_, ?_, ?_, ?_, ?_, ?_, ?_, ?_, ?_, ?_, ?_, ?_, ?_, ?_, ?_, ?_, ?_, ?_, ?_, ?_, ?_, ?_, ?_, ?_, ?_, ?_, ?_, ?_, ?_, ?_, ?_, trivial⟩
            · intro a w hE hd ho
              refine .inl ⟨rfl, ?_⟩
              intro K hK
              have hF : Ext w36 w := Ext.trans ((Ext.refl _).drew) hE
              clear bG_0 bG_1 bG_2 z0 z1 z2
              clear hd ho
              replace hK := Lib.hid hK
              go_simp
              exact hK.out _ _ rfl (Ext.refl _)
            · intro a w hE hd ho
              refine .inl ⟨wanted_by 142 rfl rfl (hd 0 (by kernel_rfl)), ?_⟩
              intro K hK
              have hF : Ext w36 w := Ext.trans ((Ext.refl _).drew) hE
              clear bG_0 bG_1 bG_2 z0 z1 z2
              clear hd ho
              replace hK := Lib.hid hK
              go_simp
              refine (law28_alive _).mono ?_
              rintro e wz ⟨rfl, hZ⟩
              go_simp
              exact hK.out _ _ rfl hZ
            · intro a w hE hd ho
              refine .inl ⟨rfl, ?_⟩
              intro K hK
              have hF : Ext w36 w := Ext.trans ((Ext.refl _).drew) hE
              have e142 : a.eval (.tmp 142) = .bool true := hd 0 (by kernel_rfl)
              rw [eval_tmp] at e142
              have e143 : a.eval (.tmp 143) = .bool true := hd 1 (by kernel_rfl)
              rw [eval_tmp] at e143
              clear bG_0 bG_1 bG_2 z0 z1 z2
              clear hd ho
              replace hK := Lib.hid hK
              go_simp
              exact hK.out _ _ rfl (Ext.refl _)
            · intro a w hE hd ho
              refine .inl ⟨rfl, ?_⟩
              intro K hK
              have hF : Ext w36 w := Ext.trans ((Ext.refl _).drew) hE
              have e144 : a.eval (.tmp 144) = .bool true := hd 2 (by kernel_rfl)
              rw [eval_tmp] at e144
              clear bG_0 bG_1 bG_2 z0 z1 z2
              clear hd ho
              replace hK := Lib.hid hK
              go_simp
              exact hK.out _ _ rfl (Ext.refl _)
            · intro a w hE hd ho
              refine .inl ⟨wanted_by 145 rfl rfl (hd 3 (by kernel_rfl)), ?_⟩
              intro K hK
              have hF : Ext w36 w := Ext.trans ((Ext.refl _).drew) hE
              have e3 : a.eval (.tmp 3) = .bool true := ho 3 (by kernel_rfl)
              rw [eval_tmp] at e3
              clear bG_0 bG_1 bG_2 z0 z1 z2
              clear hd ho
              replace hK := Lib.hid hK
              go_simp
              exact hK.out _ _ rfl (Ext.refl _)
            · intro a w hE hd ho
              refine .inl ⟨rfl, ?_⟩
              intro K hK
              have hF : Ext w36 w := Ext.trans ((Ext.refl _).drew) hE
              have e145 : a.eval (.tmp 145) = .bool true := hd 3 (by kernel_rfl)
              rw [eval_tmp] at e145
              have e146 : a.eval (.tmp 146) = .bool true := hd 4 (by kernel_rfl)
              rw [eval_tmp] at e146
              clear bG_0 bG_1 bG_2 z0 z1 z2
              clear hd ho
              replace hK := Lib.hid hK
              go_simp
              exact hK.out _ _ rfl (Ext.refl _)
            · intro a w hE hd ho
              refine .inl ⟨rfl, ?_⟩
              intro K hK
              have hF : Ext w36 w := Ext.trans ((Ext.refl _).drew) hE
              have e147 : a.eval (.tmp 147) = .bool true := hd 5 (by kernel_rfl)
              rw [eval_tmp] at e147
              clear bG_0 bG_1 bG_2 z0 z1 z2
              clear hd ho
              replace hK := Lib.hid hK
              go_simp
              exact hK.out _ _ rfl (Ext.refl _)
            · intro a w hE hd ho
              refine .inl ⟨wanted_by 148 rfl rfl (hd 6 (by kernel_rfl)), ?_⟩
              intro K hK
              have hF : Ext w36 w := Ext.trans ((Ext.refl _).drew) hE
              clear bG_0 bG_1 bG_2 z0 z1 z2
              clear hd ho
              replace hK := Lib.hid hK
              go_simp
              refine (items_Check (Its.nil _)).mono ?_
              rintro e wz ⟨rfl, hZ⟩
              rw [show chk [] = 0 from rfl]
              go_simp
              exact hK.out _ _ rfl hZ
            · intro a w hE hd ho
              refine .inl ⟨wanted_by 148 rfl rfl (hd 6 (by kernel_rfl)), ?_⟩
              intro K hK
              have hF : Ext w36 w := Ext.trans ((Ext.refl _).drew) hE
              have e149 : a.eval (.tmp 149) = .int .i64 0 := hd 7 (by kernel_rfl)
              rw [eval_tmp] at e149
              clear bG_0 bG_1 bG_2 z0 z1 z2
              clear hd ho
              replace hK := Lib.hid hK
              go_simp
              exact hK.out _ _ rfl (Ext.refl _)
            · intro a w hE hd ho
              refine .inl ⟨rfl, ?_⟩
              intro K hK
              have hF : Ext w36 w := Ext.trans ((Ext.refl _).drew) hE
              have e148 : a.eval (.tmp 148) = .bool true := hd 6 (by kernel_rfl)
              rw [eval_tmp] at e148
              have e150 : a.eval (.tmp 150) = .bool true := hd 8 (by kernel_rfl)
              rw [eval_tmp] at e150
              clear bG_0 bG_1 bG_2 z0 z1 z2
              clear hd ho
              replace hK := Lib.hid hK
              go_simp
              exact hK.out _ _ rfl (Ext.refl _)
            · intro a w hE hd ho
              refine .inl ⟨rfl, ?_⟩
              intro K hK
              have hF : Ext w36 w := Ext.trans ((Ext.refl _).drew) hE
              have e151 : a.eval (.tmp 151) = .bool true := hd 9 (by kernel_rfl)
              rw [eval_tmp] at e151
              clear bG_0 bG_1 bG_2 z0 z1 z2
              clear hd ho
              replace hK := Lib.hid hK
              go_simp
              exact hK.out _ _ rfl (Ext.refl _)
            · intro a w hE hd ho
              refine .inl ⟨wanted_by 152 rfl rfl (hd 10 (by kernel_rfl)), ?_⟩
              intro K hK
              have hF : Ext w36 w := Ext.trans ((Ext.refl _).drew) hE
              have e1 : a.eval (.tmp 1) = .slice (some ⟨B, 0, none⟩) 601 601 := ho 1 (by kernel_rfl)
              rw [eval_tmp] at e1
              clear bG_0 bG_1 bG_2 z0 z1 z2
              clear hd ho
              replace hK := Lib.hid hK
              go_simp
              exact hK.out _ _ rfl (Ext.refl _)
            · intro a w hE hd ho
              refine .inl ⟨wanted_by 152 rfl rfl (hd 10 (by kernel_rfl)), ?_⟩
              intro K hK
              have hF : Ext w36 w := Ext.trans ((Ext.refl _).drew) hE
              have e153 : a.eval (.tmp 153) = .slice (some ⟨B, 0, none⟩) 601 601 := hd 11 (by kernel_rfl)
              rw [eval_tmp] at e153
              clear bG_0 bG_1 bG_2 z0 z1 z2
              clear hd ho
              replace hK := Lib.hid hK
              go_simp
              exact hK.out _ _ rfl (Ext.refl _)
            · intro a w hE hd ho
              refine .inl ⟨wanted_by 152 rfl rfl (hd 10 (by kernel_rfl)), ?_⟩
              intro K hK
              have hF : Ext w36 w := Ext.trans ((Ext.refl _).drew) hE
              have e154 : a.eval (.tmp 154) = .slice (some ⟨B, 0, none⟩) 600 601 := hd 12 (by kernel_rfl)
              rw [eval_tmp] at e154
              clear bG_0 bG_1 bG_2 z0 z1 z2
              clear hd ho
              replace hK := Lib.hid hK
              go_simp
              refine (items_Check (hF6.ext hF)).mono ?_
              rintro e wz ⟨rfl, hZ⟩
              rw [p7.out]
              go_simp
              exact hK.out _ _ rfl hZ
            · intro a w hE hd ho
              refine .inl ⟨wanted_by 152 rfl rfl (hd 10 (by kernel_rfl)), ?_⟩
              intro K hK
              have hF : Ext w36 w := Ext.trans ((Ext.refl _).drew) hE
              have e155 : a.eval (.tmp 155) = .int .i64 0 := hd 13 (by kernel_rfl)
              rw [eval_tmp] at e155
              clear bG_0 bG_1 bG_2 z0 z1 z2
              clear hd ho
              replace hK := Lib.hid hK
              go_simp
              exact hK.out _ _ rfl (Ext.refl _)
            · intro a w hE hd ho
              refine .inl ⟨rfl, ?_⟩
              intro K hK
              have hF : Ext w36 w := Ext.trans ((Ext.refl _).drew) hE
              have e152 : a.eval (.tmp 152) = .bool true := hd 10 (by kernel_rfl)
              rw [eval_tmp] at e152
              have e156 : a.eval (.tmp 156) = .bool true := hd 14 (by kernel_rfl)
              rw [eval_tmp] at e156
              clear bG_0 bG_1 bG_2 z0 z1 z2
              clear hd ho
              replace hK := Lib.hid hK
              go_simp
              exact hK.out _ _ rfl (Ext.refl _)
            · intro a w hE hd ho
              refine .inl ⟨rfl, ?_⟩
              intro K hK
              have hF : Ext w36 w := Ext.trans ((Ext.refl _).drew) hE
              have e157 : a.eval (.tmp 157) = .bool true := hd 15 (by kernel_rfl)
              rw [eval_tmp] at e157
              clear bG_0 bG_1 bG_2 z0 z1 z2
              clear hd ho
              replace hK := Lib.hid hK
              go_simp
              exact hK.out _ _ rfl (Ext.refl _)
            · intro a w hE hd ho
              refine .inl ⟨wanted_by 158 rfl rfl (hd 16 (by kernel_rfl)), ?_⟩
              intro K hK
              have hF : Ext w36 w := Ext.trans ((Ext.refl _).drew) hE
              have e6 : a.eval (.tmp 6) = .int .i64 2 := ho 6 (by kernel_rfl)
              rw [eval_tmp] at e6
              clear bG_0 bG_1 bG_2 z0 z1 z2
              clear hd ho
              replace hK := Lib.hid hK
              go_simp
              exact hK.out _ _ rfl (Ext.refl _)
            · intro a w hE hd ho
              refine .inl ⟨wanted_by 158 rfl rfl (hd 16 (by kernel_rfl)), ?_⟩
              intro K hK
              have hF : Ext w36 w := Ext.trans ((Ext.refl _).drew) hE
              have e159 : a.eval (.tmp 159) = .int .i64 2 := hd 17 (by kernel_rfl)
              rw [eval_tmp] at e159
              clear bG_0 bG_1 bG_2 z0 z1 z2
              clear hd ho
              replace hK := Lib.hid hK
              go_simp
              exact hK.out _ _ rfl (Ext.refl _)
            · intro a w hE hd ho
              refine .inl ⟨rfl, ?_⟩
              intro K hK
              have hF : Ext w36 w := Ext.trans ((Ext.refl _).drew) hE
              have e158 : a.eval (.tmp 158) = .bool true := hd 16 (by kernel_rfl)
              rw [eval_tmp] at e158
              have e160 : a.eval (.tmp 160) = .bool true := hd 18 (by kernel_rfl)
              rw [eval_tmp] at e160
              clear bG_0 bG_1 bG_2 z0 z1 z2
              clear hd ho
              replace hK := Lib.hid hK
              go_simp
              exact hK.out _ _ rfl (Ext.refl _)
            · intro a w hE hd ho
              refine .inl ⟨rfl, ?_⟩
              intro K hK
              have hF : Ext w36 w := Ext.trans ((Ext.refl _).drew) hE
              have e161 : a.eval (.tmp 161) = .bool true := hd 19 (by kernel_rfl)
              rw [eval_tmp] at e161
              clear bG_0 bG_1 bG_2 z0 z1 z2
              clear hd ho
              replace hK := Lib.hid hK
              go_simp
              exact hK.out _ _ rfl (Ext.refl _)
            · intro a w hE hd ho
              refine .inl ⟨wanted_by 162 rfl rfl (hd 20 (by kernel_rfl)), ?_⟩
              intro K hK
              have hF : Ext w36 w := Ext.trans ((Ext.refl _).drew) hE
              have e8 : a.eval (.tmp 8) = .int .i64 2 := ho 8 (by kernel_rfl)
              rw [eval_tmp] at e8
              clear bG_0 bG_1 bG_2 z0 z1 z2
              clear hd ho
              replace hK := Lib.hid hK
              go_simp
              exact hK.out _ _ rfl (Ext.refl _)
            · intro a w hE hd ho
              refine .inl ⟨wanted_by 162 rfl rfl (hd 20 (by kernel_rfl)), ?_⟩
              intro K hK
              have hF : Ext w36 w := Ext.trans ((Ext.refl _).drew) hE
              have e163 : a.eval (.tmp 163) = .int .i64 2 := hd 21 (by kernel_rfl)
              rw [eval_tmp] at e163
              clear bG_0 bG_1 bG_2 z0 z1 z2
              clear hd ho
              replace hK := Lib.hid hK
              go_simp
              exact hK.out _ _ rfl (Ext.refl _)
            · intro a w hE hd ho
              refine .inl ⟨rfl, ?_⟩
              intro K hK
              have hF : Ext w36 w := Ext.trans ((Ext.refl _).drew) hE
              have e162 : a.eval (.tmp 162) = .bool true := hd 20 (by kernel_rfl)
              rw [eval_tmp] at e162
              have e164 : a.eval (.tmp 164) = .bool true := hd 22 (by kernel_rfl)
              rw [eval_tmp] at e164
              clear bG_0 bG_1 bG_2 z0 z1 z2
              clear hd ho
              replace hK := Lib.hid hK
              go_simp
              exact hK.out _ _ rfl (Ext.refl _)
            · intro a w hE hd ho
              refine .inl ⟨rfl, ?_⟩
              intro K hK
              have hF : Ext w36 w := Ext.trans ((Ext.refl _).drew) hE
              have e165 : a.eval (.tmp 165) = .bool true := hd 23 (by kernel_rfl)
              rw [eval_tmp] at e165
              clear bG_0 bG_1 bG_2 z0 z1 z2
              clear hd ho
              replace hK := Lib.hid hK
              go_simp
              exact hK.out _ _ rfl (Ext.refl _)
            · intro a w hE hd ho
              refine .inl ⟨wanted_by 166 rfl rfl (hd 24 (by kernel_rfl)), ?_⟩
              intro K hK
              have hF : Ext w36 w := Ext.trans ((Ext.refl _).drew) hE
              have e10 : a.eval (.tmp 10) = .int .i64 0 := ho 10 (by kernel_rfl)
              rw [eval_tmp] at e10
              clear bG_0 bG_1 bG_2 z0 z1 z2
              clear hd ho
              replace hK := Lib.hid hK
              go_simp
              exact hK.out _ _ rfl (Ext.refl _)
            · intro a w hE hd ho
              refine .inl ⟨wanted_by 166 rfl rfl (hd 24 (by kernel_rfl)), ?_⟩
              intro K hK
              have hF : Ext w36 w := Ext.trans ((Ext.refl _).drew) hE
              have e167 : a.eval (.tmp 167) = .int .i64 0 := hd 25 (by kernel_rfl)
              rw [eval_tmp] at e167
              clear bG_0 bG_1 bG_2 z0 z1 z2
              clear hd ho
              replace hK := Lib.hid hK
              go_simp
              exact hK.out _ _ rfl (Ext.refl _)
            · intro a w hE hd ho
              refine .inl ⟨rfl, ?_⟩
              intro K hK
              have hF : Ext w36 w := Ext.trans ((Ext.refl _).drew) hE
              have e166 : a.eval (.tmp 166) = .bool true := hd 24 (by kernel_rfl)
              rw [eval_tmp] at e166
              have e168 : a.eval (.tmp 168) = .bool true := hd 26 (by kernel_rfl)
              rw [eval_tmp] at e168
              clear bG_0 bG_1 bG_2 z0 z1 z2
              clear hd ho
              replace hK := Lib.hid hK
              go_simp
              exact hK.out _ _ rfl (Ext.refl _)
            · intro a w hE hd ho
              refine .inl ⟨rfl, ?_⟩
              intro K hK
              have hF : Ext w36 w := Ext.trans ((Ext.refl _).drew) hE
              have e169 : a.eval (.tmp 169) = .bool true := hd 27 (by kernel_rfl)
              rw [eval_tmp] at e169
              clear bG_0 bG_1 bG_2 z0 z1 z2
              clear hd ho
              replace hK := Lib.hid hK
              go_simp
              exact hK.out _ _ rfl (Ext.refl _)
            · intro a w hE hd ho
              refine .inl ⟨wanted_by 170 rfl rfl (hd 28 (by kernel_rfl)), ?_⟩
              intro K hK
              have hF : Ext w36 w := Ext.trans ((Ext.refl _).drew) hE
              have e9 : a.eval (.tmp 9) = .slice ahx 1 chx := ho 9 (by kernel_rfl)
              rw [eval_tmp] at e9
              clear bG_0 bG_1 bG_2 z0 z1 z2
              clear hd ho
              replace hK := Lib.hid hK
              go_simp
              exact hK.out _ _ rfl (Ext.refl _)
            · intro a w hE hd ho
              refine .inl ⟨wanted_by 170 rfl rfl (hd 28 (by kernel_rfl)), ?_⟩
              intro K hK
              have hF : Ext w36 w := Ext.trans ((Ext.refl _).drew) hE
              clear bG_0 bG_1 bG_2 z0 z1 z2
              clear hd ho
              replace hK := Lib.hid hK
              go_simp
              exact hK.out _ _ rfl (Ext.refl _)
            · intro a w hE hd ho
              refine .inl ⟨wanted_by 170 rfl rfl (hd 28 (by kernel_rfl)), ?_⟩
              intro K hK
              have hF : Ext w36 w := Ext.trans ((Ext.refl _).drew) hE
              have e172 : a.eval (.tmp 172) = .agg #[.int .u8 1, .int .i64 1000000, .int .i64 0] := hd 30 (by kernel_rfl)
              rw [eval_tmp] at e172
              clear bG_0 bG_1 bG_2 z0 z1 z2
              clear hd ho
              replace hK := Lib.hid hK
              go_simp
              exact hK.out _ _ (Its.lit w _ [⟨1, 1000000, 0⟩] _ _ rfl rfl (by simp [maxLen]) rfl) ((Ext.refl _).alloc _)
            · intro a w hE hd ho
              refine .inl ⟨wanted_by 170 rfl rfl (hd 28 (by kernel_rfl)), ?_⟩
              intro K hK
              have hF : Ext w36 w := Ext.trans ((Ext.refl _).drew) hE
              have e171 : a.eval (.tmp 171) = .slice ahx 1 chx := hd 29 (by kernel_rfl)
              rw [eval_tmp] at e171
              have h173 : Its w (a.eval (.tmp 173)) [⟨1, 1000000, 0⟩] := hd 31 (by kernel_rfl)
              obtain ⟨xa173, xc173, e173, xl173, -⟩ := h173.form
              rw [e173] at h173
              rw [eval_tmp] at e173
              clear bG_0 bG_1 bG_2 z0 z1 z2
              clear hd ho
              replace hK := Lib.hid hK
              go_simp
              refine (ref28_Same_yes (l := [⟨1, 1000000, 0⟩]) (hx.ext hF) h173).mono ?_
              rintro e wz ⟨rfl, hZ⟩
              go_simp
              exact hK.out _ _ rfl hZ
            · intro a w hE hd ho
              refine .inl ⟨rfl, ?_⟩
              intro K hK
              have hF : Ext w36 w := Ext.trans ((Ext.refl _).drew) hE
              have e170 : a.eval (.tmp 170) = .bool true := hd 28 (by kernel_rfl)
              rw [eval_tmp] at e170
              have e174 : a.eval (.tmp 174) = .bool true := hd 32 (by kernel_rfl)
              rw [eval_tmp] at e174
              clear bG_0 bG_1 bG_2 z0 z1 z2
              clear hd ho
              replace hK := Lib.hid hK
              go_simp
              exact hK.out _ _ rfl (Ext.refl _)
            · intro a w hE hd ho
              refine .inl ⟨rfl, ?_⟩
              intro K hK
              have hF : Ext w36 w := Ext.trans ((Ext.refl _).drew) hE
              have e175 : a.eval (.tmp 175) = .bool true := hd 33 (by kernel_rfl)
              rw [eval_tmp] at e175
              clear bG_0 bG_1 bG_2 z0 z1 z2
              clear hd ho
              replace hK := Lib.hid hK
              go_simp
              exact hK.out _ _ rfl (Ext.refl _)
            · intro a w hE hd ho
              refine .inl ⟨wanted_by 176 rfl rfl (hd 34 (by kernel_rfl)), ?_⟩
              intro K hK
              have hF : Ext w36 w := Ext.trans ((Ext.refl _).drew) hE
              have e12 : a.eval (.tmp 12) = .int .i64 18 := ho 12 (by kernel_rfl)
              rw [eval_tmp] at e12
              clear bG_0 bG_1 bG_2 z0 z1 z2
              clear hd ho
              replace hK := Lib.hid hK
              go_simp
              exact hK.out _ _ rfl (Ext.refl _)
            · intro a w hE hd ho
              refine .inl ⟨wanted_by 176 rfl rfl (hd 34 (by kernel_rfl)), ?_⟩
              intro K hK
              have hF : Ext w36 w := Ext.trans ((Ext.refl _).drew) hE
              have e177 : a.eval (.tmp 177) = .int .i64 18 := hd 35 (by kernel_rfl)
              rw [eval_tmp] at e177
              clear bG_0 bG_1 bG_2 z0 z1 z2
              clear hd ho
              replace hK := Lib.hid hK
              go_simp
              exact hK.out _ _ rfl (Ext.refl _)
            · intro a w hE hd ho
              refine .inl ⟨rfl, ?_⟩
              intro K hK
              have hF : Ext w36 w := Ext.trans ((Ext.refl _).drew) hE
              have e176 : a.eval (.tmp 176) = .bool true := hd 34 (by kernel_rfl)
              rw [eval_tmp] at e176
              have e178 : a.eval (.tmp 178) = .bool true := hd 36 (by kernel_rfl)
              rw [eval_tmp] at e178
              clear bG_0 bG_1 bG_2 z0 z1 z2
              clear hd ho
              replace hK := Lib.hid hK
              go_simp
              exact hK.out _ _ rfl (Ext.refl _)
            · intro a w hE hd ho
              refine .inl ⟨rfl, ?_⟩
              intro K hK
              have hF : Ext w36 w := Ext.trans ((Ext.refl _).drew) hE
              have e179 : a.eval (.tmp 179) = .bool true := hd 37 (by kernel_rfl)
              rw [eval_tmp] at e179
              clear bG_0 bG_1 bG_2 z0 z1 z2
              clear hd ho
              replace hK := Lib.hid hK
              go_simp
              exact hK.out _ _ rfl (Ext.refl _)
            · intro a w hE hd ho
              refine .inl ⟨wanted_by 180 rfl rfl (hd 38 (by kernel_rfl)), ?_⟩
              intro K hK
              have hF : Ext w36 w := Ext.trans ((Ext.refl _).drew) hE
              have e14 : a.eval (.tmp 14) = .int .i64 8 := ho 14 (by kernel_rfl)
              rw [eval_tmp] at e14
              clear bG_0 bG_1 bG_2 z0 z1 z2
              clear hd ho
              replace hK := Lib.hid hK
              go_simp
              exact hK.out _ _ rfl (Ext.refl _)
            · intro a w hE hd ho
              refine .inl ⟨wanted_by 180 rfl rfl (hd 38 (by kernel_rfl)), ?_⟩
              intro K hK
              have hF : Ext w36 w := Ext.trans ((Ext.refl _).drew) hE
              have e181 : a.eval (.tmp 181) = .int .i64 8 := hd 39 (by kernel_rfl)
              rw [eval_tmp] at e181
              clear bG_0 bG_1 bG_2 z0 z1 z2
              clear hd ho
              replace hK := Lib.hid hK
              go_simp
              exact hK.out _ _ rfl (Ext.refl _)
            · intro a w hE hd ho
              refine .inl ⟨rfl, ?_⟩
              intro K hK
              have hF : Ext w36 w := Ext.trans ((Ext.refl _).drew) hE
              have e180 : a.eval (.tmp 180) = .bool true := hd 38 (by kernel_rfl)
              rw [eval_tmp] at e180
              have e182 : a.eval (.tmp 182) = .bool true := hd 40 (by kernel_rfl)
              rw [eval_tmp] at e182
              clear bG_0 bG_1 bG_2 z0 z1 z2
              clear hd ho
              replace hK := Lib.hid hK
              go_simp
              exact hK.out _ _ rfl (Ext.refl _)
            · intro a w hE hd ho
              refine .inl ⟨rfl, ?_⟩
              intro K hK
              have hF : Ext w36 w := Ext.trans ((Ext.refl _).drew) hE
              have e183 : a.eval (.tmp 183) = .bool true := hd 41 (by kernel_rfl)
              rw [eval_tmp] at e183
              clear bG_0 bG_1 bG_2 z0 z1 z2
              clear hd ho
              replace hK := Lib.hid hK
              go_simp
              exact hK.out _ _ rfl (Ext.refl _)
            · intro a w hE hd ho
              refine .inl ⟨wanted_by 184 rfl rfl (hd 42 (by kernel_rfl)), ?_⟩
              intro K hK
              have hF : Ext w36 w := Ext.trans ((Ext.refl _).drew) hE
              have e16 : a.eval (.tmp 16) = .int .i64 0 := ho 16 (by kernel_rfl)
              rw [eval_tmp] at e16
              clear bG_0 bG_1 bG_2 z0 z1 z2
              clear hd ho
              replace hK := Lib.hid hK
              go_simp
              exact hK.out _ _ rfl (Ext.refl _)
            · intro a w hE hd ho
              refine .inl ⟨wanted_by 184 rfl rfl (hd 42 (by kernel_rfl)), ?_⟩
              intro K hK
              have hF : Ext w36 w := Ext.trans ((Ext.refl _).drew) hE
              have e185 : a.eval (.tmp 185) = .int .i64 0 := hd 43 (by kernel_rfl)
              rw [eval_tmp] at e185
              clear bG_0 bG_1 bG_2 z0 z1 z2
              clear hd ho
              replace hK := Lib.hid hK
              go_simp
              exact hK.out _ _ rfl (Ext.refl _)
            · intro a w hE hd ho
              refine .inl ⟨rfl, ?_⟩
              intro K hK
              have hF : Ext w36 w := Ext.trans ((Ext.refl _).drew) hE
              have e184 : a.eval (.tmp 184) = .bool true := hd 42 (by kernel_rfl)
              rw [eval_tmp] at e184
              have e186 : a.eval (.tmp 186) = .bool true := hd 44 (by kernel_rfl)
              rw [eval_tmp] at e186
              clear bG_0 bG_1 bG_2 z0 z1 z2
              clear hd ho
              replace hK := Lib.hid hK
              go_simp
              exact hK.out _ _ rfl (Ext.refl _)
            · intro a w hE hd ho
              refine .inl ⟨rfl, ?_⟩
              intro K hK
              have hF : Ext w36 w := Ext.trans ((Ext.refl _).drew) hE
              have e187 : a.eval (.tmp 187) = .bool true := hd 45 (by kernel_rfl)
              rw [eval_tmp] at e187
              clear bG_0 bG_1 bG_2 z0 z1 z2
              clear hd ho
              replace hK := Lib.hid hK
              go_simp
              exact hK.out _ _ rfl (Ext.refl _)
            · intro a w hE hd ho
              refine .inl ⟨wanted_by 188 rfl rfl (hd 46 (by kernel_rfl)), ?_⟩
              intro K hK
              have hF : Ext w36 w := Ext.trans ((Ext.refl _).drew) hE
              have e15 : a.eval (.tmp 15) = .slice (some ⟨yb, yo, none⟩) Y.length cy := ho 15 (by kernel_rfl)
              rw [eval_tmp] at e15
              clear bG_0 bG_1 bG_2 z0 z1 z2
              clear hd ho
              replace hK := Lib.hid hK
              go_simp
              exact hK.out _ _ rfl (Ext.refl _)
            · intro a w hE hd ho
              refine .inl ⟨wanted_by 188 rfl rfl (hd 46 (by kernel_rfl)), ?_⟩
              intro K hK
              have hF : Ext w36 w := Ext.trans ((Ext.refl _).drew) hE
              have e189 : a.eval (.tmp 189) = .slice (some ⟨yb, yo, none⟩) Y.length cy := hd 47 (by kernel_rfl)
              rw [eval_tmp] at e189
              clear bG_0 bG_1 bG_2 z0 z1 z2
              clear hd ho
              replace hK := Lib.hid hK
              go_simp
              exact hK.out _ _ rfl (Ext.refl _)
            · intro a w hE hd ho
              refine .inl ⟨wanted_by 188 rfl rfl (hd 46 (by kernel_rfl)), ?_⟩
              intro K hK
              have hF : Ext w36 w := Ext.trans ((Ext.refl _).drew) hE
              have e190 : a.eval (.tmp 190) = .int .i64 (Y.length : Int) := hd 48 (by kernel_rfl)
              rw [eval_tmp] at e190
              clear bG_0 bG_1 bG_2 z0 z1 z2
              clear hd ho
              replace hK := Lib.hid hK
              go_simp
              exact hK.out _ _ rfl (Ext.refl _)
            · intro a w hE hd ho
              refine .inl ⟨rfl, ?_⟩
              intro K hK
              have hF : Ext w36 w := Ext.trans ((Ext.refl _).drew) hE
              have e188 : a.eval (.tmp 188) = .bool true := hd 46 (by kernel_rfl)
              rw [eval_tmp] at e188
              have e191 : a.eval (.tmp 191) = .bool true := hd 49 (by kernel_rfl)
              rw [eval_tmp] at e191
              clear bG_0 bG_1 bG_2 z0 z1 z2
              clear hd ho
              replace hK := Lib.hid hK
              go_simp
              exact hK.out _ _ rfl (Ext.refl _)
            · intro a w hE hd ho
              refine .inl ⟨rfl, ?_⟩
              intro K hK
              have hF : Ext w36 w := Ext.trans ((Ext.refl _).drew) hE
              have e192 : a.eval (.tmp 192) = .bool true := hd 50 (by kernel_rfl)
              rw [eval_tmp] at e192
              clear bG_0 bG_1 bG_2 z0 z1 z2
              clear hd ho
              replace hK := Lib.hid hK
              go_simp
              exact hK.out _ _ rfl (Ext.refl _)
            · intro a w hE hd ho
              refine .inl ⟨wanted_by 193 rfl rfl (hd 51 (by kernel_rfl)), ?_⟩
              intro K hK
              have hF : Ext w36 w := Ext.trans ((Ext.refl _).drew) hE
              have e15 : a.eval (.tmp 15) = .slice (some ⟨yb, yo, none⟩) Y.length cy := ho 15 (by kernel_rfl)
              rw [eval_tmp] at e15
              clear bG_0 bG_1 bG_2 z0 z1 z2
              clear hd ho
              replace hK := Lib.hid hK
              go_simp
              exact hK.out _ _ rfl (Ext.refl _)
            · intro a w hE hd ho
              refine .inl ⟨wanted_by 193 rfl rfl (hd 51 (by kernel_rfl)), ?_⟩
              intro K hK
              have hF : Ext w36 w := Ext.trans ((Ext.refl _).drew) hE
              have e194 : a.eval (.tmp 194) = .slice (some ⟨yb, yo, none⟩) Y.length cy := hd 52 (by kernel_rfl)
              rw [eval_tmp] at e194
              clear bG_0 bG_1 bG_2 z0 z1 z2
              clear hd ho
              replace hK := Lib.hid hK
              go_simp
              exact hK.out _ _ rfl (Ext.refl _)
            · intro a w hE hd ho
              refine .inl ⟨wanted_by 193 rfl rfl (hd 51 (by kernel_rfl)), ?_⟩
              intro K hK
              have hF : Ext w36 w := Ext.trans ((Ext.refl _).drew) hE
              have e195 : a.eval (.tmp 195) = .pointer (some ⟨yb, yo + 1797, none⟩) := hd 53 (by kernel_rfl)
              rw [eval_tmp] at e195
              have z0w := Ext.cell hF z0
              have z1w := Ext.cell hF z1
              have z2w := Ext.cell hF z2
              clear bG_0 bG_1 bG_2 z0 z1 z2
              clear hd ho
              replace hK := Lib.hid hK
              go_simp
              exact hK.out _ _ rfl (Ext.refl _)
            · intro a w hE hd ho
              refine .inl ⟨wanted_by 193 rfl rfl (hd 51 (by kernel_rfl)), ?_⟩
              intro K hK
              have hF : Ext w36 w := Ext.trans ((Ext.refl _).drew) hE
              have e4 : a.eval (.tmp 4) = .pointer (some ⟨w17.heap.size, 0, none⟩) := ho 4 (by kernel_rfl)
              rw [eval_tmp] at e4
              have bG_0w := Ext.cell hF bG_0
              have bG_1w := Ext.cell hF bG_1
              have bG_2w := Ext.cell hF bG_2
              clear bG_0 bG_1 bG_2 z0 z1 z2
              clear hd ho
              replace hK := Lib.hid hK
              go_simp
              exact hK.out _ _ rfl (Ext.refl _)
            · intro a w hE hd ho
              refine .inl ⟨wanted_by 193 rfl rfl (hd 51 (by kernel_rfl)), ?_⟩
              intro K hK
              have hF : Ext w36 w := Ext.trans ((Ext.refl _).drew) hE
              have e196 : a.eval (.tmp 196) = .agg #[.int .u8 4, .int .i64 1000000, .int .i64 1000000] := hd 54 (by kernel_rfl)
              rw [eval_tmp] at e196
              have e197 : a.eval (.tmp 197) = .agg #[.int .u8 4, .int .i64 1000000, .int .i64 1000000] := hd 55 (by kernel_rfl)
              rw [eval_tmp] at e197
              clear bG_0 bG_1 bG_2 z0 z1 z2
              clear hd ho
              replace hK := Lib.hid hK
              go_simp
              exact hK.out _ _ rfl (Ext.refl _)
            · intro a w hE hd ho
              refine .inl ⟨rfl, ?_⟩
              intro K hK
              have hF : Ext w36 w := Ext.trans ((Ext.refl _).drew) hE
              have e193 : a.eval (.tmp 193) = .bool true := hd 51 (by kernel_rfl)
              rw [eval_tmp] at e193
              have e198 : a.eval (.tmp 198) = .bool true := hd 56 (by kernel_rfl)
              rw [eval_tmp] at e198
              clear bG_0 bG_1 bG_2 z0 z1 z2
              clear hd ho
              replace hK := Lib.hid hK
              go_simp
              exact hK.out _ _ rfl (Ext.refl _)
            · intro a w hE hd ho
              refine .inl ⟨rfl, ?_⟩
              intro K hK
              have hF : Ext w36 w := Ext.trans ((Ext.refl _).drew) hE
              have e199 : a.eval (.tmp 199) = .bool true := hd 57 (by kernel_rfl)
              rw [eval_tmp] at e199
              clear bG_0 bG_1 bG_2 z0 z1 z2
              clear hd ho
              replace hK := Lib.hid hK
              go_simp
              exact hK.out _ _ rfl (Ext.refl _)
            · intro a w hE hd ho
              refine .inl ⟨wanted_by 200 rfl rfl (hd 58 (by kernel_rfl)), ?_⟩
              intro K hK
              have hF : Ext w36 w := Ext.trans ((Ext.refl _).drew) hE
              have e18 : a.eval (.tmp 18) = .int .i64 8 := ho 18 (by kernel_rfl)
              rw [eval_tmp] at e18
              clear bG_0 bG_1 bG_2 z0 z1 z2
              clear hd ho
              replace hK := Lib.hid hK
              go_simp
              exact hK.out _ _ rfl (Ext.refl _)
            · intro a w hE hd ho
              refine .inl ⟨wanted_by 200 rfl rfl (hd 58 (by kernel_rfl)), ?_⟩
              intro K hK
              have hF : Ext w36 w := Ext.trans ((Ext.refl _).drew) hE
              have e201 : a.eval (.tmp 201) = .int .i64 8 := hd 59 (by kernel_rfl)
              rw [eval_tmp] at e201
              clear bG_0 bG_1 bG_2 z0 z1 z2
              clear hd ho
              replace hK := Lib.hid hK
              go_simp
              exact hK.out _ _ rfl (Ext.refl _)
            · intro a w hE hd ho
              refine .inl ⟨rfl, ?_⟩
              intro K hK
              have hF : Ext w36 w := Ext.trans ((Ext.refl _).drew) hE
              have e200 : a.eval (.tmp 200) = .bool true := hd 58 (by kernel_rfl)
              rw [eval_tmp] at e200
              have e202 : a.eval (.tmp 202) = .bool true := hd 60 (by kernel_rfl)
              rw [eval_tmp] at e202
              clear bG_0 bG_1 bG_2 z0 z1 z2
              clear hd ho
              replace hK := Lib.hid hK
              go_simp
              exact hK.out _ _ rfl (Ext.refl _)
            · intro a w hE hd ho
              refine .inl ⟨rfl, ?_⟩
              intro K hK
              have hF : Ext w36 w := Ext.trans ((Ext.refl _).drew) hE
              have e203 : a.eval (.tmp 203) = .bool true := hd 61 (by kernel_rfl)
              rw [eval_tmp] at e203
              clear bG_0 bG_1 bG_2 z0 z1 z2
              clear hd ho
              replace hK := Lib.hid hK
              go_simp
              exact hK.out _ _ rfl (Ext.refl _)
            · intro a w hE hd ho
              refine .inl ⟨wanted_by 204 rfl rfl (hd 62 (by kernel_rfl)), ?_⟩
              intro K hK
              have hF : Ext w36 w := Ext.trans ((Ext.refl _).drew) hE
              have e20 : a.eval (.tmp 20) = .int .i64 2 := ho 20 (by kernel_rfl)
              rw [eval_tmp] at e20
              clear bG_0 bG_1 bG_2 z0 z1 z2
              clear hd ho
              replace hK := Lib.hid hK
              go_simp
              exact hK.out _ _ rfl (Ext.refl _)
            · intro a w hE hd ho
              refine .inl ⟨wanted_by 204 rfl rfl (hd 62 (by kernel_rfl)), ?_⟩
              intro K hK
              have hF : Ext w36 w := Ext.trans ((Ext.refl _).drew) hE
              have e205 : a.eval (.tmp 205) = .int .i64 2 := hd 63 (by kernel_rfl)
              rw [eval_tmp] at e205
              clear bG_0 bG_1 bG_2 z0 z1 z2
              clear hd ho
              replace hK := Lib.hid hK
              go_simp
              exact hK.out _ _ rfl (Ext.refl _)
            · intro a w hE hd ho
              refine .inl ⟨rfl, ?_⟩
              intro K hK
              have hF : Ext w36 w := Ext.trans ((Ext.refl _).drew) hE
              have e204 : a.eval (.tmp 204) = .bool true := hd 62 (by kernel_rfl)
              rw [eval_tmp] at e204
              have e206 : a.eval (.tmp 206) = .bool true := hd 64 (by kernel_rfl)
              rw [eval_tmp] at e206
              clear bG_0 bG_1 bG_2 z0 z1 z2
              clear hd ho
              replace hK := Lib.hid hK
              go_simp
              exact hK.out _ _ rfl (Ext.refl _)
            · intro a w hE hd ho
              refine .inl ⟨rfl, ?_⟩
              intro K hK
              have hF : Ext w36 w := Ext.trans ((Ext.refl _).drew) hE
              have e207 : a.eval (.tmp 207) = .bool true := hd 65 (by kernel_rfl)
              rw [eval_tmp] at e207
              clear bG_0 bG_1 bG_2 z0 z1 z2
              clear hd ho
              replace hK := Lib.hid hK
              go_simp
              exact hK.out _ _ rfl (Ext.refl _)
            · intro a w hE hd ho
              refine .inl ⟨wanted_by 208 rfl rfl (hd 66 (by kernel_rfl)), ?_⟩
              intro K hK
              have hF : Ext w36 w := Ext.trans ((Ext.refl _).drew) hE
              have e22 : a.eval (.tmp 22) = .int .i64 2 := ho 22 (by kernel_rfl)
              rw [eval_tmp] at e22
              clear bG_0 bG_1 bG_2 z0 z1 z2
              clear hd ho
              replace hK := Lib.hid hK
              go_simp
              exact hK.out _ _ rfl (Ext.refl _)
            · intro a w hE hd ho
              refine .inl ⟨wanted_by 208 rfl rfl (hd 66 (by kernel_rfl)), ?_⟩
              intro K hK
              have hF : Ext w36 w := Ext.trans ((Ext.refl _).drew) hE
              have e209 : a.eval (.tmp 209) = .int .i64 2 := hd 67 (by kernel_rfl)
              rw [eval_tmp] at e209
              clear bG_0 bG_1 bG_2 z0 z1 z2
              clear hd ho
              replace hK := Lib.hid hK
              go_simp
              exact hK.out _ _ rfl (Ext.refl _)
            · intro a w hE hd ho
              refine .inl ⟨rfl, ?_⟩
              intro K hK
              have hF : Ext w36 w := Ext.trans ((Ext.refl _).drew) hE
              have e208 : a.eval (.tmp 208) = .bool true := hd 66 (by kernel_rfl)
              rw [eval_tmp] at e208
              have e210 : a.eval (.tmp 210) = .bool true := hd 68 (by kernel_rfl)
              rw [eval_tmp] at e210
              clear bG_0 bG_1 bG_2 z0 z1 z2
              clear hd ho
              replace hK := Lib.hid hK
              go_simp
              exact hK.out _ _ rfl (Ext.refl _)
            · intro a w hE hd ho
              refine .inl ⟨rfl, ?_⟩
              intro K hK
              have hF : Ext w36 w := Ext.trans ((Ext.refl _).drew) hE
              have e211 : a.eval (.tmp 211) = .bool true := hd 69 (by kernel_rfl)
              rw [eval_tmp] at e211
              clear bG_0 bG_1 bG_2 z0 z1 z2
              clear hd ho
              replace hK := Lib.hid hK
              go_simp
              exact hK.out _ _ rfl (Ext.refl _)
            · intro a w hE hd ho
              refine .inl ⟨wanted_by 212 rfl rfl (hd 70 (by kernel_rfl)), ?_⟩
              intro K hK
              have hF : Ext w36 w := Ext.trans ((Ext.refl _).drew) hE
              have e24 : a.eval (.tmp 24) = .int .i64 2 := ho 24 (by kernel_rfl)
              rw [eval_tmp] at e24
              clear bG_0 bG_1 bG_2 z0 z1 z2
              clear hd ho
              replace hK := Lib.hid hK
              go_simp
              exact hK.out _ _ rfl (Ext.refl _)
            · intro a w hE hd ho
              refine .inl ⟨wanted_by 212 rfl rfl (hd 70 (by kernel_rfl)), ?_⟩
              intro K hK
              have hF : Ext w36 w := Ext.trans ((Ext.refl _).drew) hE
              have e213 : a.eval (.tmp 213) = .int .i64 2 := hd 71 (by kernel_rfl)
              rw [eval_tmp] at e213
              clear bG_0 bG_1 bG_2 z0 z1 z2
              clear hd ho
              replace hK := Lib.hid hK
              go_simp
              exact hK.out _ _ rfl (Ext.refl _)
            · intro a w hE hd ho
              refine .inl ⟨rfl, ?_⟩
              intro K hK
              have hF : Ext w36 w := Ext.trans ((Ext.refl _).drew) hE
              have e212 : a.eval (.tmp 212) = .bool true := hd 70 (by kernel_rfl)
              rw [eval_tmp] at e212
              have e214 : a.eval (.tmp 214) = .bool true := hd 72 (by kernel_rfl)
              rw [eval_tmp] at e214
              clear bG_0 bG_1 bG_2 z0 z1 z2
              clear hd ho
              replace hK := Lib.hid hK
              go_simp
              exact hK.out _ _ rfl (Ext.refl _)
            · intro a w hE hd ho
              refine .inl ⟨rfl, ?_⟩
              intro K hK
              have hF : Ext w36 w := Ext.trans ((Ext.refl _).drew) hE
              have e215 : a.eval (.tmp 215) = .bool true := hd 73 (by kernel_rfl)
              rw [eval_tmp] at e215
              clear bG_0 bG_1 bG_2 z0 z1 z2
              clear hd ho
              replace hK := Lib.hid hK
              go_simp
              exact hK.out _ _ rfl (Ext.refl _)
            · intro a w hE hd ho
              refine .inl ⟨wanted_by 216 rfl rfl (hd 74 (by kernel_rfl)), ?_⟩
              intro K hK
              have hF : Ext w36 w := Ext.trans ((Ext.refl _).drew) hE
              have e26 : a.eval (.tmp 26) = .int .i64 0 := ho 26 (by kernel_rfl)
              rw [eval_tmp] at e26
              clear bG_0 bG_1 bG_2 z0 z1 z2
              clear hd ho
              replace hK := Lib.hid hK
              go_simp
              exact hK.out _ _ rfl (Ext.refl _)
            · intro a w hE hd ho
              refine .inl ⟨wanted_by 216 rfl rfl (hd 74 (by kernel_rfl)), ?_⟩
              intro K hK
              have hF : Ext w36 w := Ext.trans ((Ext.refl _).drew) hE
              have e217 : a.eval (.tmp 217) = .int .i64 0 := hd 75 (by kernel_rfl)
              rw [eval_tmp] at e217
              clear bG_0 bG_1 bG_2 z0 z1 z2
              clear hd ho
              replace hK := Lib.hid hK
              go_simp
              exact hK.out _ _ rfl (Ext.refl _)
            · intro a w hE hd ho
              refine .inl ⟨rfl, ?_⟩
              intro K hK
              have hF : Ext w36 w := Ext.trans ((Ext.refl _).drew) hE
              have e216 : a.eval (.tmp 216) = .bool true := hd 74 (by kernel_rfl)
              rw [eval_tmp] at e216
              have e218 : a.eval (.tmp 218) = .bool true := hd 76 (by kernel_rfl)
              rw [eval_tmp] at e218
              clear bG_0 bG_1 bG_2 z0 z1 z2
              clear hd ho
              replace hK := Lib.hid hK
              go_simp
              exact hK.out _ _ rfl (Ext.refl _)
            · intro a w hE hd ho
              refine .inl ⟨rfl, ?_⟩
              intro K hK
              have hF : Ext w36 w := Ext.trans ((Ext.refl _).drew) hE
              have e219 : a.eval (.tmp 219) = .bool true := hd 77 (by kernel_rfl)
              rw [eval_tmp] at e219
              clear bG_0 bG_1 bG_2 z0 z1 z2
              clear hd ho
              replace hK := Lib.hid hK
              go_simp
              exact hK.out _ _ rfl (Ext.refl _)
            · intro a w hE hd ho
              refine .inl ⟨wanted_by 220 rfl rfl (hd 78 (by kernel_rfl)), ?_⟩
              intro K hK
              have hF : Ext w36 w := Ext.trans ((Ext.refl _).drew) hE
              have e25 : a.eval (.tmp 25) = .slice ahzz 0 chzz := ho 25 (by kernel_rfl)
              rw [eval_tmp] at e25
              clear bG_0 bG_1 bG_2 z0 z1 z2
              clear hd ho
              replace hK := Lib.hid hK
              go_simp
              exact hK.out _ _ rfl (Ext.refl _)
            · intro a w hE hd ho
              refine .inl ⟨wanted_by 220 rfl rfl (hd 78 (by kernel_rfl)), ?_⟩
              intro K hK
              have hF : Ext w36 w := Ext.trans ((Ext.refl _).drew) hE
              have e221 : a.eval (.tmp 221) = .slice ahzz 0 chzz := hd 79 (by kernel_rfl)
              rw [eval_tmp] at e221
              clear bG_0 bG_1 bG_2 z0 z1 z2
              clear hd ho
              replace hK := Lib.hid hK
              go_simp
              exact hK.out _ _ rfl (Ext.refl _)
            · intro a w hE hd ho
              refine .inl ⟨wanted_by 220 rfl rfl (hd 78 (by kernel_rfl)), ?_⟩
              intro K hK
              have hF : Ext w36 w := Ext.trans ((Ext.refl _).drew) hE
              have e222 : a.eval (.tmp 222) = .int .i64 0 := hd 80 (by kernel_rfl)
              rw [eval_tmp] at e222
              clear bG_0 bG_1 bG_2 z0 z1 z2
              clear hd ho
              replace hK := Lib.hid hK
              go_simp
              exact hK.out _ _ rfl (Ext.refl _)
            · intro a w hE hd ho
              refine .inl ⟨rfl, ?_⟩
              intro K hK
              have hF : Ext w36 w := Ext.trans ((Ext.refl _).drew) hE
              have e220 : a.eval (.tmp 220) = .bool true := hd 78 (by kernel_rfl)
              rw [eval_tmp] at e220
              have e223 : a.eval (.tmp 223) = .bool true := hd 81 (by kernel_rfl)
              rw [eval_tmp] at e223
              clear bG_0 bG_1 bG_2 z0 z1 z2
              clear hd ho
              replace hK := Lib.hid hK
              go_simp
              exact hK.out _ _ rfl (Ext.refl _)
            · intro a w hE hd ho
              refine .inl ⟨rfl, ?_⟩
              intro K hK
              have hF : Ext w36 w := Ext.trans ((Ext.refl _).drew) hE
              have e224 : a.eval (.tmp 224) = .bool true := hd 82 (by kernel_rfl)
              rw [eval_tmp] at e224
              clear bG_0 bG_1 bG_2 z0 z1 z2
              clear hd ho
              replace hK := Lib.hid hK
              go_simp
              exact hK.out _ _ rfl (Ext.refl _)
            · intro a w hE hd ho
              refine .inl ⟨wanted_by 225 rfl rfl (hd 83 (by kernel_rfl)), ?_⟩
              intro K hK
              have hF : Ext w36 w := Ext.trans ((Ext.refl _).drew) hE
              have e28 : a.eval (.tmp 28) = .int .i64 0 := ho 28 (by kernel_rfl)
              rw [eval_tmp] at e28
              clear bG_0 bG_1 bG_2 z0 z1 z2
              clear hd ho
              replace hK := Lib.hid hK
              go_simp
              exact hK.out _ _ rfl (Ext.refl _)
            · intro a w hE hd ho
              refine .inl ⟨wanted_by 225 rfl rfl (hd 83 (by kernel_rfl)), ?_⟩
              intro K hK
              have hF : Ext w36 w := Ext.trans ((Ext.refl _).drew) hE
              have e226 : a.eval (.tmp 226) = .int .i64 0 := hd 84 (by kernel_rfl)
              rw [eval_tmp] at e226
              clear bG_0 bG_1 bG_2 z0 z1 z2
              clear hd ho
              replace hK := Lib.hid hK
              go_simp
              exact hK.out _ _ rfl (Ext.refl _)
            · intro a w hE hd ho
              refine .inl ⟨rfl, ?_⟩
              intro K hK
              have hF : Ext w36 w := Ext.trans ((Ext.refl _).drew) hE
              have e225 : a.eval (.tmp 225) = .bool true := hd 83 (by kernel_rfl)
              rw [eval_tmp] at e225
              have e227 : a.eval (.tmp 227) = .bool true := hd 85 (by kernel_rfl)
              rw [eval_tmp] at e227
              clear bG_0 bG_1 bG_2 z0 z1 z2
              clear hd ho
              replace hK := Lib.hid hK
              go_simp
              exact hK.out _ _ rfl (Ext.refl _)
            · intro a w hE hd ho
              refine .inl ⟨rfl, ?_⟩
              intro K hK
              have hF : Ext w36 w := Ext.trans ((Ext.refl _).drew) hE
              have e228 : a.eval (.tmp 228) = .bool true := hd 86 (by kernel_rfl)
              rw [eval_tmp] at e228
              clear bG_0 bG_1 bG_2 z0 z1 z2
              clear hd ho
              replace hK := Lib.hid hK
              go_simp
              exact hK.out _ _ rfl (Ext.refl _)
            · intro a w hE hd ho
              refine .inl ⟨wanted_by 229 rfl rfl (hd 87 (by kernel_rfl)), ?_⟩
              intro K hK
              have hF : Ext w36 w := Ext.trans ((Ext.refl _).drew) hE
              have e27 : a.eval (.tmp 27) = .slice ahu 1 chu := ho 27 (by kernel_rfl)
              rw [eval_tmp] at e27
              clear bG_0 bG_1 bG_2 z0 z1 z2
              clear hd ho
              replace hK := Lib.hid hK
              go_simp
              exact hK.out _ _ rfl (Ext.refl _)
            · intro a w hE hd ho
              refine .inl ⟨wanted_by 229 rfl rfl (hd 87 (by kernel_rfl)), ?_⟩
              intro K hK
              have hF : Ext w36 w := Ext.trans ((Ext.refl _).drew) hE
              clear bG_0 bG_1 bG_2 z0 z1 z2
              clear hd ho
              replace hK := Lib.hid hK
              go_simp
              refine (law28_example _).mono ?_
              rintro e wz ⟨vq, rfl, oq, hZ⟩
              have hq : Its wz vq exam28 := Own.sl oq
              go_simp
              exact hK.out _ _ hq hZ
            · intro a w hE hd ho
              refine .inl ⟨wanted_by 229 rfl rfl (hd 87 (by kernel_rfl)), ?_⟩
              intro K hK
              have hF : Ext w36 w := Ext.trans ((Ext.refl _).drew) hE
              have h231 : Its w (a.eval (.tmp 231)) exam28 := hd 89 (by kernel_rfl)
              obtain ⟨xa231, xc231, e231, xl231, -⟩ := h231.form
              rw [e231] at h231
              rw [eval_tmp] at e231
              clear bG_0 bG_1 bG_2 z0 z1 z2
              have hqs := slice_upto_Stack xa231 exam28 xc231 1 1 rfl (Nat.le_trans (by decide) xl231)
              have hq1 : Its w (.slice xa231 1 xc231) [⟨1, 3, 0⟩] := h231.take 1 (by decide)
              clear hd ho
              replace hK := Lib.hid hK
              go_simp
              exact hK.out _ _ hq1 (Ext.refl _)
            · intro a w hE hd ho
              refine .inl ⟨wanted_by 229 rfl rfl (hd 87 (by kernel_rfl)), ?_⟩
              intro K hK
              have hF : Ext w36 w := Ext.trans ((Ext.refl _).drew) hE
              have e230 : a.eval (.tmp 230) = .slice ahu 1 chu := hd 88 (by kernel_rfl)
              rw [eval_tmp] at e230
              have h232 : Its w (a.eval (.tmp 232)) [⟨1, 3, 0⟩] := hd 90 (by kernel_rfl)
              obtain ⟨xa232, xc232, e232, xl232, -⟩ := h232.form
              rw [e232] at h232
              rw [eval_tmp] at e232
              clear bG_0 bG_1 bG_2 z0 z1 z2
              clear hd ho
              replace hK := Lib.hid hK
              go_simp
              refine (ref28_Same_yes (l := [⟨1, 3, 0⟩]) (hu.ext hF) h232).mono ?_
              rintro e wz ⟨rfl, hZ⟩
              go_simp
              exact hK.out _ _ rfl hZ
            · intro a w hE hd ho
              refine .inl ⟨rfl, ?_⟩
              intro K hK
              have hF : Ext w36 w := Ext.trans ((Ext.refl _).drew) hE
              have e229 : a.eval (.tmp 229) = .bool true := hd 87 (by kernel_rfl)
              rw [eval_tmp] at e229
              have e233 : a.eval (.tmp 233) = .bool true := hd 91 (by kernel_rfl)
              rw [eval_tmp] at e233
              clear bG_0 bG_1 bG_2 z0 z1 z2
              clear hd ho
              replace hK := Lib.hid hK
              go_simp
              exact hK.out _ _ rfl (Ext.refl _)
            · intro a w hE hd ho
              refine .inl ⟨rfl, ?_⟩
              intro K hK
              have hF : Ext w36 w := Ext.trans ((Ext.refl _).drew) hE
              have e234 : a.eval (.tmp 234) = .bool true := hd 92 (by kernel_rfl)
              rw [eval_tmp] at e234
              clear bG_0 bG_1 bG_2 z0 z1 z2
              clear hd ho
              replace hK := Lib.hid hK
              go_simp
              exact hK.out _ _ rfl (Ext.refl _)
            · intro a w hE hd ho
              refine .inl ⟨wanted_by 235 rfl rfl (hd 93 (by kernel_rfl)), ?_⟩
              intro K hK
              have hF : Ext w36 w := Ext.trans ((Ext.refl _).drew) hE
              have e30 : a.eval (.tmp 30) = .int .i64 2 := ho 30 (by kernel_rfl)
              rw [eval_tmp] at e30
              clear bG_0 bG_1 bG_2 z0 z1 z2
              clear hd ho
              replace hK := Lib.hid hK
              go_simp
              exact hK.out _ _ rfl (Ext.refl _)
            · intro a w hE hd ho
              refine .inl ⟨wanted_by 235 rfl rfl (hd 93 (by kernel_rfl)), ?_⟩
              intro K hK
              have hF : Ext w36 w := Ext.trans ((Ext.refl _).drew) hE
              have e236 : a.eval (.tmp 236) = .int .i64 2 := hd 94 (by kernel_rfl)
              rw [eval_tmp] at e236
              clear bG_0 bG_1 bG_2 z0 z1 z2
              clear hd ho
              replace hK := Lib.hid hK
              go_simp
              exact hK.out _ _ rfl (Ext.refl _)
            · intro a w hE hd ho
              refine .inl ⟨rfl, ?_⟩
              intro K hK
              have hF : Ext w36 w := Ext.trans ((Ext.refl _).drew) hE
              have e235 : a.eval (.tmp 235) = .bool true := hd 93 (by kernel_rfl)
              rw [eval_tmp] at e235
              have e237 : a.eval (.tmp 237) = .bool true := hd 95 (by kernel_rfl)
              rw [eval_tmp] at e237
              clear bG_0 bG_1 bG_2 z0 z1 z2
              clear hd ho
              replace hK := Lib.hid hK
              go_simp
              exact hK.out _ _ rfl (Ext.refl _)
            · intro a w hE hd ho
              refine .inl ⟨rfl, ?_⟩
              intro K hK
              have hF : Ext w36 w := Ext.trans ((Ext.refl _).drew) hE
              have e238 : a.eval (.tmp 238) = .bool true := hd 96 (by kernel_rfl)
              rw [eval_tmp] at e238
              clear bG_0 bG_1 bG_2 z0 z1 z2
              clear hd ho
              replace hK := Lib.hid hK
              go_simp
              exact hK.out _ _ rfl (Ext.refl _)
            · intro a w hE hd ho
              refine .inl ⟨wanted_by 239 rfl rfl (hd 97 (by kernel_rfl)), ?_⟩
              intro K hK
              have hF : Ext w36 w := Ext.trans ((Ext.refl _).drew) hE
              clear bG_0 bG_1 bG_2 z0 z1 z2
              clear hd ho
              replace hK := Lib.hid hK
              go_simp
              refine (law28_finds 0 false (-1) (Its.nil _)).mono ?_
              rintro e wz ⟨rfl, hZ⟩
              rw [show findsB [] 0 false (-1) = true from rfl]
              go_simp
              exact hK.out _ _ rfl hZ
            · intro a w hE hd ho
              refine .inl ⟨rfl, ?_⟩
              intro K hK
              have hF : Ext w36 w := Ext.trans ((Ext.refl _).drew) hE
              have e239 : a.eval (.tmp 239) = .bool true := hd 97 (by kernel_rfl)
              rw [eval_tmp] at e239
              have e240 : a.eval (.tmp 240) = .bool true := hd 98 (by kernel_rfl)
              rw [eval_tmp] at e240
              clear bG_0 bG_1 bG_2 z0 z1 z2
              clear hd ho
              replace hK := Lib.hid hK
              go_simp
              exact hK.out _ _ rfl (Ext.refl _)
            · intro a w hE hd ho
              refine .inl ⟨rfl, ?_⟩
              intro K hK
              have hF : Ext w36 w := Ext.trans ((Ext.refl _).drew) hE
              have e241 : a.eval (.tmp 241) = .bool true := hd 99 (by kernel_rfl)
              rw [eval_tmp] at e241
              clear bG_0 bG_1 bG_2 z0 z1 z2
              clear hd ho
              replace hK := Lib.hid hK
              go_simp
              exact hK.out _ _ rfl (Ext.refl _)
            · intro a w hE hd ho
              refine .inl ⟨wanted_by 242 rfl rfl (hd 100 (by kernel_rfl)), ?_⟩
              intro K hK
              have hF : Ext w36 w := Ext.trans ((Ext.refl _).drew) hE
              have e1 : a.eval (.tmp 1) = .slice (some ⟨B, 0, none⟩) 601 601 := ho 1 (by kernel_rfl)
              rw [eval_tmp] at e1
              clear bG_0 bG_1 bG_2 z0 z1 z2
              clear hd ho
              replace hK := Lib.hid hK
              go_simp
              exact hK.out _ _ rfl (Ext.refl _)
            · intro a w hE hd ho
              refine .inl ⟨wanted_by 242 rfl rfl (hd 100 (by kernel_rfl)), ?_⟩
              intro K hK
              have hF : Ext w36 w := Ext.trans ((Ext.refl _).drew) hE
              have e243 : a.eval (.tmp 243) = .slice (some ⟨B, 0, none⟩) 601 601 := hd 101 (by kernel_rfl)
              rw [eval_tmp] at e243
              clear bG_0 bG_1 bG_2 z0 z1 z2
              clear hd ho
              replace hK := Lib.hid hK
              go_simp
              exact hK.out _ _ rfl (Ext.refl _)
            · intro a w hE hd ho
              refine .inl ⟨wanted_by 242 rfl rfl (hd 100 (by kernel_rfl)), ?_⟩
              intro K hK
              have hF : Ext w36 w := Ext.trans ((Ext.refl _).drew) hE
              have e244 : a.eval (.tmp 244) = .slice (some ⟨B, 0, none⟩) 600 601 := hd 102 (by kernel_rfl)
              rw [eval_tmp] at e244
              clear bG_0 bG_1 bG_2 z0 z1 z2
              clear hd ho
              replace hK := Lib.hid hK
              go_simp
              refine (law28_finds 599 true 599 (hF6.ext hF)).mono ?_
              rintro e wz ⟨rfl, hZ⟩
              rw [p8.out]
              go_simp
              exact hK.out _ _ rfl hZ
            · intro a w hE hd ho
              refine .inl ⟨rfl, ?_⟩
              intro K hK
              have hF : Ext w36 w := Ext.trans ((Ext.refl _).drew) hE
              have e242 : a.eval (.tmp 242) = .bool true := hd 100 (by kernel_rfl)
              rw [eval_tmp] at e242
              have e245 : a.eval (.tmp 245) = .bool true := hd 103 (by kernel_rfl)
              rw [eval_tmp] at e245
              clear bG_0 bG_1 bG_2 z0 z1 z2
              clear hd ho
              replace hK := Lib.hid hK
              go_simp
              exact hK.out _ _ rfl (Ext.refl _)
            · intro a w hE hd ho
              refine .inl ⟨rfl, ?_⟩
              intro K hK
              have hF : Ext w36 w := Ext.trans ((Ext.refl _).drew) hE
              have e246 : a.eval (.tmp 246) = .bool true := hd 104 (by kernel_rfl)
              rw [eval_tmp] at e246
              clear bG_0 bG_1 bG_2 z0 z1 z2
              clear hd ho
              replace hK := Lib.hid hK
              go_simp
              exact hK.out _ _ rfl (Ext.refl _)
          · intro vals w hE hv
            have hF : Ext w36 w := Ext.trans ((Ext.refl _).drew) hE
            have ee : vals 105 = .bool true := hv 105 (by decide)
            clear hv hE
            try dsimp only [List.append]
            simp only [putAll]
            go_simp
            try rw [ee]
            go_wp2
            go_ret
            exact ⟨rfl, Ext.trans (hF35) hF⟩
set_option maxRecDepth 100000 in
theorem itemsNames_lifted (os : Os) (started : os.Started) (H : Type) (enc : TypeId × Value → H) :
    ReturnsInHanded {} Try.checked os 3 .any (Rows.itemsNamesSpec.pre6 enc Try.prog Try.f3 Rows.itemsNamesRow.domain false) (Rows.itemsNamesSpec.post enc Try.prog Try.f3 false true false false) := by
  refine returnsInHanded_of_change (C := Try.checked) Tryown started (by kernel_rfl) Try.func3
    (ChangeSpec.witness6 (enc := enc) (C := Try.checked) false ⟨#[], #[], []⟩ 8 (by kernel_rfl) (by kernel_rfl) (by kernel_rfl) (by kernel_rfl)) ?_
  intro W base args ds gs before hval0 hW _ _
  have hval : ∀ (j : Nat) t v, Try.f3.params[j]? = some t → args[j]? = some v → Value.okWide Try.prog W .any base t v := hval0
  have hW' := hW
  obtain ⟨p, q, hA0, hV, rfl, hfz, hnd⟩ := hW
  have hA : DataW.TrodAll enc Try.prog W 0 (fun _ => true) true Try.f3.params.toList args.toList ds p := hA0
  rw [Try.params3] at hA hval
  obtain ⟨hargs, rfl, rfl⟩ := trodAll_nil hA
  obtain rfl : args = #[] := by cases args; simp_all
  refine (itemsNames_walk).mono fun e W' ⟨he, hb⟩ => ?_
  subst he
  exact ⟨_, rfl, post_law TrylaidOut (tb := 4) rfl Try.underlying4 (by kernel_rfl) rfl (fun ds hd => match ds, hd with | [], _ => rfl) hW' hb⟩

theorem itemsNames_holds : Rows.ItemsNamesSaid :=
  OpenClaim.holds_of_wide 3 Try.f3 rfl rfl rfl rfl rfl rfl rfl ⟨rfl, rfl, rfl, rfl, rfl⟩ rfl rfl rfl rfl rfl (by kernel_rfl) Try.func3 (by kernel_rfl)
    (of_decide_eq_true (by kernel_rfl)) (by unfold Func.isWrapper; first | (rw [if_pos (by decide +kernel)]; kernel_rfl) | (rw [if_neg (by decide +kernel)]; exact ⟨rfl, rfl⟩))
    (fun os started H enc _ => itemsNames_lifted os started H enc)

end Go.Proofs.Ytcndhbkbbmgeeaa
