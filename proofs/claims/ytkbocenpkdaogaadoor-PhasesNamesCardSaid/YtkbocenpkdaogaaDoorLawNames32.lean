/- The statement PhasesNames: the call returns true. Condition: the laid permissions. (printed by gen/names32.py) -/
import Derived.Test.YtkbocenpkdaogaaDoorNamP
import Derived.Test.YtkbocenpkdaogaaDoorReadI
import Derived.Test.YtkbocenpkdaogaaDoorClose
import Derived.Test.YtkbocenpkdaogaaDoorDoor
import Derived.Deep.DeepCutAuto
import Derived.Deep.RegionHeld3
namespace Go.Proofs.YtkbocenpkdaogaaDoor
set_option maxRecDepth 100000
open Go.ChangeShapes Go.WideShapes Go.ChangeAt Go.RowKit

set_option maxRecDepth 100000 in
set_option maxHeartbeats 25600000 in
theorem phasesNames_walk {w : World} (hp : Perms w) : Calls Tryd.prog 5 #[] w fun e w' => e = .returned (.bool true) ∧ Ext w w' := by
  obtain ⟨Z, M, hZ, hM, z1, z2, m1, ml⟩ := data32
  have hmk1 : ∀ W : World, (Instr.makeSlice 37 (.int .i64 601) (.int .i64 601)).run Tryd.prog W = .ok (.slice (some ⟨W.heap.size, 0, none⟩) 601 601) (W.alloc (.cells (zints 601) 3)) := make_Ints 601 (by decide)
  replace hZ := Lib.hid hZ; replace hM := Lib.hid hM; replace z1 := Lib.hid z1; replace z2 := Lib.hid z2; replace m1 := Lib.hid m1; replace ml := Lib.hid ml
  go_enter Tryd.func5, Tryd.ntmps5
  go_wp2_with fail
  have bB := Box.new w 23 #[.int .u8 0, .int .i64 0, .int .i64 0]
  have hsz : Hid ((World.alloc w (.cells #[.int .u8 0, .int .i64 0, .int .i64 0] 23)).heap.size = w.heap.size + 1) := Hid.mk (by simp)
  have hx0 : Ext w (World.alloc w (.cells #[.int .u8 0, .int .i64 0, .int .i64 0] 23)) := (Ext.refl _).alloc _
  obtain ⟨w0b, hw0⟩ : ∃ x, World.alloc w (.cells #[.int .u8 0, .int .i64 0, .int .i64 0] 23) = x := ⟨_, rfl⟩
  rw [hw0] at hsz bB hx0 ⊢
  clear hw0
  replace hp := hp.ext hx0
  have hF0 := Ext.trans (Ext.refl w) hx0
  have hbad : Its w0b (.slice (some ⟨w.heap.size, 0, none⟩) 1 1) [⟨0, 0, 0⟩] := Its.of_box bB rfl (by simp [maxLen]) rfl
  clear bB
  go_wp2_with fail
  refine (phases_Reserve (l := [⟨0, 0, 0⟩]) (run := []) (hp.ext (by repeat (first | exact Ext.refl _ | apply Ext.alloc | apply Ext.drew))) 1 (-1) (hbad.ext (by repeat (first | exact Ext.refl _ | apply Ext.alloc | apply Ext.drew))) (Nts.nil _)).mono ?_
  rintro e w2 ⟨vz1, rfl, -, hZ1⟩
  have hE1 : Ext w0b w2 := Ext.trans (by repeat (first | exact Ext.refl _ | apply Ext.alloc | apply Ext.drew)) hZ1
  replace hp := hp.ext hE1
  replace hbad := hbad.ext hE1
  have hF1 := Ext.trans (hF0) hE1
  rw [pn_a]
  go_wp2_with fail
  refine (law32_base _).mono ?_
  rintro e w3 ⟨vb2, rfl, ob2, hZ2⟩
  have hE2 : Ext w2 w3 := Ext.trans (by repeat (first | exact Ext.refl _ | apply Ext.alloc | apply Ext.drew)) hZ2
  replace hp := hp.ext hE2
  replace hbad := hbad.ext hE2
  have hF2 := Ext.trans (hF1) hE2
  have hb2 : Its w3 vb2 base32 := Own.sl ob2
  obtain ⟨ab2, cb2, rfl, -⟩ := hb2.form
  clear ob2
  dsimp only at hb2 ⊢
  go_wp2_with fail
  refine (phases_Reserve (l := base32) (run := []) (hp.ext (by repeat (first | exact Ext.refl _ | apply Ext.alloc | apply Ext.drew))) 1 (-1) (hb2.ext (by repeat (first | exact Ext.refl _ | apply Ext.alloc | apply Ext.drew))) (Nts.nil _)).mono ?_
  rintro e w4 ⟨vz3, rfl, -, hZ3⟩
  have hE3 : Ext w3 w4 := Ext.trans (by repeat (first | exact Ext.refl _ | apply Ext.alloc | apply Ext.drew)) hZ3
  replace hp := hp.ext hE3
  replace hbad := hbad.ext hE3
  replace hb2 := hb2.ext hE3
  have hF3 := Ext.trans (hF2) hE3
  rw [pn_b]
  clear hb2
  go_wp2_with fail
  refine (phases_Reserve (l := [⟨0, 0, 0⟩]) (run := [0]) (hp.ext (by repeat (first | exact Ext.refl _ | apply Ext.alloc | apply Ext.drew))) 1 2 (hbad.ext (by repeat (first | exact Ext.refl _ | apply Ext.alloc | apply Ext.drew))) (by (repeat (first | exact Nts.nil _ | exact Nts.litl _ _ _ _ _ (by first | (simp; done) | exact hsz.out | (have := hsz.out; simp; omega)) rfl (by simp [maxLen]) rfl | refine Nts.ext ?_ (Ext.refl _).drew | refine Nts.ext ?_ ((Ext.refl _).alloc _) | refine Nts.ext ?_ (by assumption))))).mono ?_
  rintro e w5 ⟨vz4, rfl, -, hZ4⟩
  have hE4 : Ext w4 w5 := Ext.trans (by repeat (first | exact Ext.refl _ | apply Ext.alloc | apply Ext.drew)) hZ4
  replace hp := hp.ext hE4
  replace hbad := hbad.ext hE4
  have hF4 := Ext.trans (hF3) hE4
  rw [pn_c]
  go_wp2_with fail
  refine (phases_Activate (l := [⟨0, 0, 0⟩]) (run := []) 1 (hbad.ext (by repeat (first | exact Ext.refl _ | apply Ext.alloc | apply Ext.drew))) (Nts.nil _)).mono ?_
  rintro e w6 ⟨vz5, rfl, -, hZ5⟩
  have hE5 : Ext w5 w6 := Ext.trans (by repeat (first | exact Ext.refl _ | apply Ext.alloc | apply Ext.drew)) hZ5
  replace hp := hp.ext hE5
  replace hbad := hbad.ext hE5
  have hF5 := Ext.trans (hF4) hE5
  rw [pn_d]
  go_wp2_with fail
  refine (phases_Phase (l := [⟨0, 0, 0⟩]) 1 (hbad.ext (by repeat (first | exact Ext.refl _ | apply Ext.alloc | apply Ext.drew)))).mono ?_
  rintro e w7 ⟨rfl, hZ6⟩
  have hE6 : Ext w6 w7 := Ext.trans (by repeat (first | exact Ext.refl _ | apply Ext.alloc | apply Ext.drew)) hZ6
  replace hp := hp.ext hE6
  replace hbad := hbad.ext hE6
  have hF6 := Ext.trans (hF5) hE6
  rw [pn_e]
  go_wp2_with fail
  refine (phases_Many (l := [⟨0, 0, 0⟩]) (tags := Z) (run := []) (hbad.ext (by repeat (first | exact Ext.refl _ | apply Ext.alloc | apply Ext.drew))) (by repeat (first | exact zints_nts 601 _ (by decide) _ (by first | (simp; done) | exact hsz.out | (have := hsz.out; simp; omega)) Z hZ.out | refine Nts.ext ?_ (Ext.refl _).drew | refine Nts.ext ?_ ((Ext.refl _).alloc _))) (Nts.nil _)).mono ?_
  rintro e w8 ⟨vz7, rfl, -, hZ7⟩
  have hE7 : Ext w7 w8 := Ext.trans (by repeat (first | exact Ext.refl _ | apply Ext.alloc | apply Ext.drew)) hZ7
  replace hp := hp.ext hE7
  replace hbad := hbad.ext hE7
  have hF7 := Ext.trans (hF6) hE7
  rw [z1.out]
  go_wp2_with fail
  refine (phases_Many (l := [⟨0, 0, 0⟩]) (tags := []) (run := [2, 1]) (hbad.ext (by repeat (first | exact Ext.refl _ | apply Ext.alloc | apply Ext.drew))) (Nts.nil _) (by (repeat (first | exact Nts.nil _ | exact Nts.litl _ _ _ _ _ (by first | (simp; done) | exact hsz.out | (have := hsz.out; simp; omega)) rfl (by simp [maxLen]) rfl | refine Nts.ext ?_ (Ext.refl _).drew | refine Nts.ext ?_ ((Ext.refl _).alloc _) | refine Nts.ext ?_ (by assumption))))).mono ?_
  rintro e w9 ⟨vz8, rfl, -, hZ8⟩
  have hE8 : Ext w8 w9 := Ext.trans (by repeat (first | exact Ext.refl _ | apply Ext.alloc | apply Ext.drew)) hZ8
  replace hp := hp.ext hE8
  replace hbad := hbad.ext hE8
  have hF8 := Ext.trans (hF7) hE8
  rw [pn_g]
  go_upto_region 9 with fail
  go_cut [24, 25, 26, 27] from 98 to 105 (fun _ _ _ s4 wx => s4 = .int .i64 4 ∧ Ext w9 wx)
  case first =>
    have hSk : ∀ w' w'' : World, (Ext w9 w') → Ext w' w'' → (Ext w9 w'') := by
      intro w' w'' kE h
      exact Ext.trans kE h
    go_region_held3 (fun w' => (Ext w9 w')) (first | assumption | exact (Ext.refl _).drew | (refine hSk _ _ (by assumption) ?_; first | assumption | exact (Ext.refl _).alloc _ | exact ((Ext.refl _).alloc _).drew)) (first | (go_at_call 24; refine (law32_base _).mono ?_; rintro e wb ⟨vb, rfl, ob, hRb⟩; (have hb : Its wb vb base32 := Own.sl ob); obtain ⟨ab, cb, rfl, -⟩ := hb.form; clear ob; dsimp only at hb ⊢) | (go_at_call 27; refine (phases_Many (l := base32) (tags := Z) (run := []) (hb.ext (by repeat (first | exact Ext.refl _ | apply Ext.alloc | apply Ext.drew))) (by first | (exact zints_nts 601 _ (by decide) _ (by first | rfl | (simp; done)) Z hZ.out) | (refine Nts.ext (zints_nts 601 _ (by decide) w9.drew rfl Z hZ.out) hRb)) (Nts.nil _)).mono ?_; rintro e wm ⟨vm, rfl, -, hRm⟩; rw [z2.out]))
    all_goals
      go_wp2_with fail
      go_meet
      exact ⟨rfl, (by first | assumption | (exact Ext.trans (by assumption) (by assumption)))⟩
  case rest =>
    obtain ⟨rfl, hG9⟩ := hcut
    obtain ⟨wq9, hwq⟩ : ∃ z, wc = z := ⟨_, rfl⟩
    rw [hwq] at hG9 ⊢
    clear hwq
    replace hp := hp.ext hG9
    replace hbad := hbad.ext hG9
    have hF9 := Ext.trans (hF8) hG9
    go_wp2_with fail
    refine (law32_base _).mono ?_
    rintro e w11 ⟨vb10, rfl, ob10, hZ10⟩
    have hE10 : Ext wq9 w11 := Ext.trans (by repeat (first | exact Ext.refl _ | apply Ext.alloc | apply Ext.drew)) hZ10
    replace hp := hp.ext hE10
    replace hbad := hbad.ext hE10
    have hF10 := Ext.trans (hF9) hE10
    have hb10 : Its w11 vb10 base32 := Own.sl ob10
    obtain ⟨ab10, cb10, rfl, -⟩ := hb10.form
    clear ob10
    dsimp only at hb10 ⊢
    go_wp2_with fail
    refine (phases_Many (l := base32) (tags := []) (run := []) (hb10.ext (by repeat (first | exact Ext.refl _ | apply Ext.alloc | apply Ext.drew))) (Nts.nil _) (Nts.nil _)).mono ?_
    rintro e w12 ⟨vhq, rfl, ohq, hZ11⟩
    have hE11 : Ext w11 w12 := Ext.trans (by repeat (first | exact Ext.refl _ | apply Ext.alloc | apply Ext.drew)) hZ11
    replace hp := hp.ext hE11
    replace hbad := hbad.ext hE11
    replace hb10 := hb10.ext hE11
    have hF11 := Ext.trans (hF10) hE11
    rw [pn_i] at ohq ⊢
    have hq : Its w12 vhq base32 := ohq.its
    obtain ⟨ahq, chq, rfl, -⟩ := hq.form
    clear ohq
    dsimp only at hq ⊢
    clear hb10
    go_wp2_with fail
    refine (law32_base _).mono ?_
    rintro e w13 ⟨vb12, rfl, ob12, hZ12⟩
    have hE12 : Ext w12 w13 := Ext.trans (by repeat (first | exact Ext.refl _ | apply Ext.alloc | apply Ext.drew)) hZ12
    replace hp := hp.ext hE12
    replace hbad := hbad.ext hE12
    replace hq := hq.ext hE12
    have hF12 := Ext.trans (hF11) hE12
    have hb12 : Its w13 vb12 base32 := Own.sl ob12
    obtain ⟨ab12, cb12, rfl, -⟩ := hb12.form
    clear ob12
    dsimp only at hb12 ⊢
    go_wp2_with fail
    refine (phases_Many (l := base32) (tags := [1, 1, 7, 1]) (run := []) (hb12.ext (by repeat (first | exact Ext.refl _ | apply Ext.alloc | apply Ext.drew))) (by (repeat (first | exact Nts.nil _ | exact Nts.litl _ _ _ _ _ (by first | (simp; done) | exact hsz.out | (have := hsz.out; simp; omega)) rfl (by simp [maxLen]) rfl | refine Nts.ext ?_ (Ext.refl _).drew | refine Nts.ext ?_ ((Ext.refl _).alloc _) | refine Nts.ext ?_ (by assumption)))) (Nts.nil _)).mono ?_
    rintro e w14 ⟨vhk, rfl, ohk, hZ13⟩
    have hE13 : Ext w13 w14 := Ext.trans (by repeat (first | exact Ext.refl _ | apply Ext.alloc | apply Ext.drew)) hZ13
    replace hp := hp.ext hE13
    replace hbad := hbad.ext hE13
    replace hq := hq.ext hE13
    replace hb12 := hb12.ext hE13
    have hF13 := Ext.trans (hF12) hE13
    rw [pn_j] at ohk ⊢
    have hk : Its w14 vhk [] := ohk.its
    obtain ⟨ahk, chk, rfl, -⟩ := hk.form
    clear ohk
    dsimp only at hk ⊢
    clear hk
    clear hb12
    go_upto_region 12 with fail
    have hmk0 : ∀ W : World, (Instr.makeSlice 37 (.int .i64 600) (.int .i64 600)).run Tryd.prog W = .ok (.slice (some ⟨W.heap.size, 0, none⟩) 600 600) (W.alloc (.cells (zints 600) 3)) := make_Ints 600 (by decide)
    have hO := zints_own 600 (by decide) w14 (B := w14.heap.size) (Nat.le_refl _)
    go_wp2
    clear hmk0 hmk1
    obtain ⟨B, hB⟩ : ∃ n, Array.size (World.heap w14) = n := ⟨_, rfl⟩
    rw [hB] at hO ⊢
    go_loopw [37] (fun iv wr => ∃ k : Nat, k ≤ 600 ∧ iv = .int .i64 k ∧ Own wr B 3 1 (.slice (some ⟨B, 0, none⟩) 600 600) 600 ((fl32 600 k).flatMap irow) ∧ Ext w14 wr) (fun iv _ => 600 - (intOf iv).toNat)
    case atStart => exact ⟨0, by omega, rfl, hO, (Ext.refl _).alloc _⟩
    case round =>
      obtain ⟨k, hk, rfl, hW, hX⟩ := hrel
      by_cases hlt : k < 600
      · have hlt' : decide ((k : Int) < 600) = true := decide_eq_true (by omega)
        obtain ⟨x0, hx0⟩ : ∃ x, (fl32 600 k)[k]? = some x := ⟨(fl32 600 k)[k]'(by rw [fl32_len hk]; exact hlt), by simp⟩
        have f0 := hW.frozen k
        have c0 : World.cell? wr ⟨B, k, none⟩ = some (.int .i64 x0) := by
          have h1 := rows_get irow irow_len (fl32 600 k) k 0 _ hx0 (by omega)
          rw [Nat.mul_one, Nat.add_zero] at h1
          exact (hW.cellAt k (by omega)).trans h1
        have hBl : B < wr.heap.size := (hW.lt (g := B) rfl).2
        have hi0 : (0 : Int) ≤ (k : Int) := by omega
        have hi1 : (k : Int) < 600 := by omega
        replace hx0 := Lib.hid hx0
        go_wp2
        go_roundw
        case rel =>
          have hset := Own.set hW k (.int .i64 1)
          rw [irow_set (fl32 600 k) k 1 (by rw [fl32_len hk]; exact hlt), fl32_set hlt] at hset
          exact ⟨k + 1, by omega, by go_num, hset, Ext.setCell hX (by rw [hB]; exact Nat.le_refl _) _⟩
        case measure => simp [intOf]; omega
      · have hke : k = 600 := by omega
        subst hke
        rw [fl32_end, hM.out] at hW
        have hmy : Nts wr (.slice (some ⟨B, 0, none⟩) 600 600) M := nts_own hW ml.out
        clear hW hO hk hlt
        replace hp := hp.ext hX
        replace hbad := hbad.ext hX
        replace hq := hq.ext hX
        have hF100 := Ext.trans (hF13) hX
        go_wp2_with fail
        refine (law32_base _).mono ?_
        rintro e w102 ⟨vb101, rfl, ob101, hZ101⟩
        have hE101 : Ext wr w102 := Ext.trans (by repeat (first | exact Ext.refl _ | apply Ext.alloc | apply Ext.drew)) hZ101
        replace hp := hp.ext hE101
        replace hbad := hbad.ext hE101
        replace hq := hq.ext hE101
        replace hmy := hmy.ext hE101
        have hF101 := Ext.trans (hF100) hE101
        have hb101 : Its w102 vb101 base32 := Own.sl ob101
        obtain ⟨ab101, cb101, rfl, -⟩ := hb101.form
        clear ob101
        dsimp only at hb101 ⊢
        go_wp2_with fail
        refine (phases_Many (l := base32) (tags := M) (run := []) (hb101.ext (by repeat (first | exact Ext.refl _ | apply Ext.alloc | apply Ext.drew))) (hmy.ext (by repeat (first | exact Ext.refl _ | apply Ext.alloc | apply Ext.drew))) (Nts.nil _)).mono ?_
        rintro e w103 ⟨vz102, rfl, -, hZ102⟩
        have hE102 : Ext w102 w103 := Ext.trans (by repeat (first | exact Ext.refl _ | apply Ext.alloc | apply Ext.drew)) hZ102
        replace hp := hp.ext hE102
        replace hbad := hbad.ext hE102
        replace hq := hq.ext hE102
        replace hmy := hmy.ext hE102
        replace hb101 := hb101.ext hE102
        have hF102 := Ext.trans (hF101) hE102
        rw [m1.out]
        clear hb101
        clear hmy
        go_wp2_with fail
        refine (law32_base _).mono ?_
        rintro e w104 ⟨vb103, rfl, ob103, hZ103⟩
        have hE103 : Ext w103 w104 := Ext.trans (by repeat (first | exact Ext.refl _ | apply Ext.alloc | apply Ext.drew)) hZ103
        replace hp := hp.ext hE103
        replace hbad := hbad.ext hE103
        replace hq := hq.ext hE103
        have hF103 := Ext.trans (hF102) hE103
        have hb103 : Its w104 vb103 base32 := Own.sl ob103
        obtain ⟨ab103, cb103, rfl, -⟩ := hb103.form
        clear ob103
        dsimp only at hb103 ⊢
        go_wp2_with fail
        refine (phases_Reserve (l := base32) (run := []) (hp.ext (by repeat (first | exact Ext.refl _ | apply Ext.alloc | apply Ext.drew))) 2 3 (hb103.ext (by repeat (first | exact Ext.refl _ | apply Ext.alloc | apply Ext.drew))) (Nts.nil _)).mono ?_
        rintro e w105 ⟨vhx, rfl, ohx, hZ104⟩
        have hE104 : Ext w104 w105 := Ext.trans (by repeat (first | exact Ext.refl _ | apply Ext.alloc | apply Ext.drew)) hZ104
        replace hp := hp.ext hE104
        replace hbad := hbad.ext hE104
        replace hq := hq.ext hE104
        replace hb103 := hb103.ext hE104
        have hF104 := Ext.trans (hF103) hE104
        rw [pn_l] at ohx ⊢
        have hx : Its w105 vhx [] := ohx.its
        obtain ⟨ahx, chx, rfl, -⟩ := hx.form
        clear ohx
        dsimp only at hx ⊢
        clear hx
        clear hb103
        go_wp2_with fail
        refine (law32_base _).mono ?_
        rintro e w106 ⟨vh, rfl, oh, hZ105⟩
        have hE105 : Ext w105 w106 := Ext.trans (by repeat (first | exact Ext.refl _ | apply Ext.alloc | apply Ext.drew)) hZ105
        replace hp := hp.ext hE105
        replace hbad := hbad.ext hE105
        replace hq := hq.ext hE105
        have hF105 := Ext.trans (hF104) hE105
        obtain ⟨gh, ch, rfl, -, -, -, -⟩ := oh.form (by decide)
        have hh0 : World.cell? w106 ⟨gh, 0, none⟩ = some (.int .u8 1) := (oh.cellAt 0 (by decide)).trans rfl
        have hh1 : World.cell? w106 ⟨gh, 1, none⟩ = some (.int .i64 1) := (oh.cellAt 1 (by decide)).trans rfl
        have hh2 : World.cell? w106 ⟨gh, 2, none⟩ = some (.int .i64 0) := (oh.cellAt 2 (by decide)).trans rfl
        simp only [show base32.length = 1 from rfl]
        clear oh
        have hh0_l := World.block_lt_of_cell? _ _ hh0
        have hh1_l := World.block_lt_of_cell? _ _ hh1
        have hh2_l := World.block_lt_of_cell? _ _ hh2
        go_wp2_with fail
        try clear hh0_l
        try clear hh1_l
        try clear hh2_l
        refine (phases_Reserve (l := held32) (run := [4]) (hp.ext (by repeat (first | exact Ext.refl _ | apply Ext.alloc | apply Ext.drew))) 1 3 (by repeat (first | exact Its.lit _ _ held32 _ _ (by first | (simp; done) | exact hsz.out | (have := hsz.out; simp; omega)) rfl (by simp [maxLen]) rfl | refine Its.ext ?_ (Ext.refl _).drew | refine Its.ext ?_ ((Ext.refl _).alloc _))) (by (repeat (first | exact Nts.nil _ | exact Nts.litl _ _ _ _ _ (by first | (simp; done) | exact hsz.out | (have := hsz.out; simp; omega)) rfl (by simp [maxLen]) rfl | refine Nts.ext ?_ (Ext.refl _).drew | refine Nts.ext ?_ ((Ext.refl _).alloc _) | refine Nts.ext ?_ (by assumption))))).mono ?_
        rintro e w107 ⟨vz106, rfl, -, hZ106⟩
        have hE106 : Ext w106 w107 := Ext.trans (by repeat (first | exact Ext.refl _ | apply Ext.alloc | apply Ext.drew)) hZ106
        replace hp := hp.ext hE106
        replace hbad := hbad.ext hE106
        replace hq := hq.ext hE106
        replace hh0 := Ext.cell hE106 hh0
        replace hh1 := Ext.cell hE106 hh1
        replace hh2 := Ext.cell hE106 hh2
        have hF106 := Ext.trans (hF105) hE106
        rw [pn_m]
        clear hh0 hh1 hh2
        go_wp2_with fail
        refine (law32_is (l := [⟨3, 5, 0⟩]) 5 2 (by repeat (first | exact Its.lit _ _ [⟨3, 5, 0⟩] _ _ (by first | (simp; done) | exact hsz.out | (have := hsz.out; simp; omega)) rfl (by simp [maxLen]) rfl | refine Its.ext ?_ (Ext.refl _).drew | refine Its.ext ?_ ((Ext.refl _).alloc _)))).mono ?_
        rintro e w108 ⟨rfl, hZ107⟩
        have hE107 : Ext w107 w108 := Ext.trans (by repeat (first | exact Ext.refl _ | apply Ext.alloc | apply Ext.drew)) hZ107
        replace hp := hp.ext hE107
        replace hbad := hbad.ext hE107
        replace hq := hq.ext hE107
        have hF107 := Ext.trans (hF106) hE107
        rw [pn_1]
        go_wp2_with fail
        refine (law32_is (l := [⟨4, 5, 0⟩]) 5 0 (by repeat (first | exact Its.lit _ _ [⟨4, 5, 0⟩] _ _ (by first | (simp; done) | exact hsz.out | (have := hsz.out; simp; omega)) rfl (by simp [maxLen]) rfl | refine Its.ext ?_ (Ext.refl _).drew | refine Its.ext ?_ ((Ext.refl _).alloc _)))).mono ?_
        rintro e w109 ⟨rfl, hZ108⟩
        have hE108 : Ext w108 w109 := Ext.trans (by repeat (first | exact Ext.refl _ | apply Ext.alloc | apply Ext.drew)) hZ108
        replace hp := hp.ext hE108
        replace hbad := hbad.ext hE108
        replace hq := hq.ext hE108
        have hF108 := Ext.trans (hF107) hE108
        rw [pn_2]
        go_wp2_with fail
        refine (law32_is (l := [⟨2, 5, 0⟩, ⟨4, 5, 0⟩]) 5 1 (by repeat (first | exact Its.lit _ _ [⟨2, 5, 0⟩, ⟨4, 5, 0⟩] _ _ (by first | (simp; done) | exact hsz.out | (have := hsz.out; simp; omega)) rfl (by simp [maxLen]) rfl | refine Its.ext ?_ (Ext.refl _).drew | refine Its.ext ?_ ((Ext.refl _).alloc _)))).mono ?_
        rintro e w110 ⟨rfl, hZ109⟩
        have hE109 : Ext w109 w110 := Ext.trans (by repeat (first | exact Ext.refl _ | apply Ext.alloc | apply Ext.drew)) hZ109
        replace hp := hp.ext hE109
        replace hbad := hbad.ext hE109
        replace hq := hq.ext hE109
        have hF109 := Ext.trans (hF108) hE109
        rw [pn_3]
        go_wp2_with fail
        refine (law32_is (l := []) 0 0 (Its.nil _)).mono ?_
        rintro e w111 ⟨rfl, hZ110⟩
        have hE110 : Ext w110 w111 := Ext.trans (by repeat (first | exact Ext.refl _ | apply Ext.alloc | apply Ext.drew)) hZ110
        replace hp := hp.ext hE110
        replace hbad := hbad.ext hE110
        replace hq := hq.ext hE110
        have hF110 := Ext.trans (hF109) hE110
        rw [pn_4]
        go_wp2_with fail
        refine (law32_is (l := []) (-1) 0 (Its.nil _)).mono ?_
        rintro e w112 ⟨rfl, hZ111⟩
        have hE111 : Ext w111 w112 := Ext.trans (by repeat (first | exact Ext.refl _ | apply Ext.alloc | apply Ext.drew)) hZ111
        replace hp := hp.ext hE111
        replace hbad := hbad.ext hE111
        replace hq := hq.ext hE111
        have hF111 := Ext.trans (hF110) hE111
        rw [pn_5]
        go_wp2_with fail
        refine (law32_alive (hp.ext (by repeat (first | exact Ext.refl _ | apply Ext.alloc | apply Ext.drew)))).mono ?_
        rintro e w113 ⟨rfl, hZ112⟩
        have hE112 : Ext w112 w113 := Ext.trans (by repeat (first | exact Ext.refl _ | apply Ext.alloc | apply Ext.drew)) hZ112
        replace hp := hp.ext hE112
        replace hbad := hbad.ext hE112
        replace hq := hq.ext hE112
        have hF112 := Ext.trans (hF111) hE112
        go_wp2_with fail
        refine (law32_base _).mono ?_
        rintro e w114 ⟨vb113, rfl, ob113, hZ113⟩
        have hE113 : Ext w113 w114 := Ext.trans (by repeat (first | exact Ext.refl _ | apply Ext.alloc | apply Ext.drew)) hZ113
        replace hp := hp.ext hE113
        replace hbad := hbad.ext hE113
        replace hq := hq.ext hE113
        have hF113 := Ext.trans (hF112) hE113
        have hb113 : Its w114 vb113 base32 := Own.sl ob113
        obtain ⟨ab113, cb113, rfl, -⟩ := hb113.form
        clear ob113
        dsimp only at hb113 ⊢
        go_wp2_with fail
        refine (ref28_Same_yes (l := base32) (hq.ext (by repeat (first | exact Ext.refl _ | apply Ext.alloc | apply Ext.drew))) (hb113.ext (by repeat (first | exact Ext.refl _ | apply Ext.alloc | apply Ext.drew)))).mono ?_
        rintro e w115 ⟨rfl, hZ114⟩
        have hE114 : Ext w114 w115 := Ext.trans (by repeat (first | exact Ext.refl _ | apply Ext.alloc | apply Ext.drew)) hZ114
        replace hp := hp.ext hE114
        replace hbad := hbad.ext hE114
        replace hq := hq.ext hE114
        replace hb113 := hb113.ext hE114
        have hF114 := Ext.trans (hF113) hE114
        go_wp2
        go_ret
        exact ⟨rfl, hF114⟩
set_option maxRecDepth 100000 in
theorem phasesNames_contract (H : Type) (enc : TypeId × Value → H) (W : World) (base : Nat) (args : Array Value) (ds gs : List (DataW H)) (before : List MemPlace)
    (hval0 : ∀ (j : Nat) t v, Tryd.f5.params[j]? = some t → args[j]? = some v → Value.okWide Tryd.prog W .any base t v)
    (hW : DataW.Whole enc Tryd.prog Tryd.f5.params.toList Rows.phasesNamesSpec.vars false W args.toList ds gs before) (hL : laidMetH Tryd.prog Rows.phasesNamesRow.laid W) :
    Calls Tryd.prog 5 args W fun e W' => ∃ v, e = .returned v ∧ Rows.phasesNamesSpec.post enc Tryd.prog Tryd.f5 false true false false W args v W' := by
  have hval : ∀ (j : Nat) t v, Tryd.f5.params[j]? = some t → args[j]? = some v → Value.okWide Tryd.prog W .any base t v := hval0
  have hW' := hW
  obtain ⟨p, q, hA0, hV, rfl, hfz, hnd⟩ := hW
  have hA : DataW.TrodAll enc Tryd.prog W 0 (fun _ => true) true Tryd.f5.params.toList args.toList ds p := hA0
  rw [Tryd.params5] at hA hval
  obtain ⟨hargs, rfl, rfl⟩ := trodAll_nil hA
  obtain rfl : args = #[] := by cases args; simp_all
  refine (phasesNames_walk (perms_of_laid hL) ).mono fun e W' ⟨he, hb⟩ => ?_
  subst he
  exact ⟨_, rfl, post_law TrydlaidOut (tb := 4) rfl Tryd.underlying4 (by kernel_rfl) rfl (fun ds hd => match ds, hd with | [], _ => rfl) hW' hb⟩
theorem phasesNames_met (os : Os) : laidMet Tryd.prog Rows.phasesNamesRow.laid ((doorWorld os).forCall (fun _ _ => 0) ⟨#[], #[], []⟩).memory :=
  laidMet_of_run' 8 (by kernel_rfl) (by kernel_rfl)
theorem phasesNames_reads (os : Os) {H : Type} (enc : TypeId × Value → H) : ∃ places, DataW.whole enc Tryd.prog ((doorWorld os).forCall (fun _ _ => 0) ⟨#[], #[], []⟩).memory Tryd.f5.params.toList Rows.phasesNamesSpec.vars false (#[] : Array Value).toList 8 = some ([], [], places) :=
  ⟨[], by kernel_rfl⟩
set_option maxRecDepth 100000 in
theorem phasesNames_lifted (os : Os) (started : os.Started) (H : Type) (enc : TypeId × Value → H) (F : Stop.Interp) :
    ReturnsInHanded {} Tryd.checked os 5 .any ((OpenSpec.ofChange Rows.phasesNamesSpec).preRow enc Tryd.prog Tryd.f5 Rows.phasesNamesRow.domain false Rows.phasesNamesRow.laid) (((OpenSpec.ofChange Rows.phasesNamesSpec).at F).post enc Tryd.prog Tryd.f5 false true false false) := by
  obtain ⟨places, hx⟩ := phasesNames_reads os enc
  refine returnsInHanded_of_row (C := Tryd.checked) (s := OpenSpec.ofChange Rows.phasesNamesSpec) Trydown started (by kernel_rfl) Tryd.func5
    (witness_row_at (enc := enc) (C := Tryd.checked) false (doorWorld os) #[] rfl (by kernel_rfl) (by kernel_rfl) (by kernel_rfl)
      (OpenSpec.preRow_of_cond 8 hx (by kernel_rfl) (fun k hk => by cases hk) (by kernel_rfl) (phasesNames_met os))) ?_
  intro W base args ds gs before hval hW _ _ _ hL _ _
  exact phasesNames_contract H enc W base args ds gs before hval hW hL
theorem phasesNames_said : Rows.PhasesNamesSaid :=
  OpenClaim.holds_of_cond 5 Tryd.f5 rfl rfl rfl rfl rfl rfl rfl ⟨rfl, rfl, rfl, rfl, rfl⟩ rfl rfl rfl rfl rfl (by kernel_rfl) Tryd.func5 (by kernel_rfl)
    (of_decide_eq_true (by kernel_rfl)) (by unfold Func.isWrapper; first | (rw [if_pos (by decide +kernel)]; kernel_rfl) | (rw [if_neg (by decide +kernel)]; exact ⟨rfl, rfl⟩))
    (fun os started H enc _ F => by rw [OpenClaim.pre_eq_preRow]; exact phasesNames_lifted os started H enc F)
theorem phasesNames_plain (f : FuncId) (fn : Func) (hf : Tryd.pinned.checked.prog.funcNamed "pawnshop/pawnshoplaw32.PhasesNames" = some f) (hfn : Tryd.pinned.checked.prog.funcs[f]? = some fn) :
    false = Tryd.pinned.checked.prog.looks [] ∧ ∀ (j : Nat) t, fn.params[j]? = some t → Tryd.pinned.checked.prog.wantsStandIn t = false := by
  obtain rfl : f = 5 := Option.some.inj ((show Tryd.prog.funcNamed "pawnshop/pawnshoplaw32.PhasesNames" = some 5 by kernel_rfl).symm.trans hf) |>.symm
  obtain rfl : fn = Tryd.f5 := (Option.some.inj (Tryd.func5.symm.trans hfn)).symm
  refine ⟨by kernel_rfl, fun j t ht => ?_⟩
  have hm : t ∈ Tryd.f5.params.toList := by simpa using Array.mem_of_getElem? ht
  have hall : (Tryd.f5.params.toList.all fun u => !Tryd.prog.wantsStandIn u) = true := by kernel_rfl
  exact (show Tryd.prog.wantsStandIn t = false by simpa using List.all_eq_true.1 hall t hm)
theorem phasesNames_card : Rows.PhasesNamesCardSaid :=
  Claim7.holds_tied_plain_at .later [] _ _ _ _ phasesNames_said (fun _ h => by cases h) (by kernel_rfl) (fun _ h => by cases h) phasesNames_row_tie rfl ⟨rfl, rfl⟩ (by kernel_rfl) rfl phasesNames_plain (by kernel_rfl)

end Go.Proofs.YtkbocenpkdaogaaDoor
