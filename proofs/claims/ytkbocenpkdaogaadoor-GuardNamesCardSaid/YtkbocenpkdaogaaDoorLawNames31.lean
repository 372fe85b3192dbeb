/- The statement GuardNames: the call returns true. Condition: the laid permissions. (printed by gen/names31.py) -/
import Derived.Test.YtkbocenpkdaogaaDoorNamH
import Derived.Test.YtkbocenpkdaogaaDoorReadI
import Derived.Test.YtkbocenpkdaogaaDoorClose
import Derived.Test.YtkbocenpkdaogaaDoorDoor
import Derived.Deep.DeepCutAuto
namespace Go.Proofs.YtkbocenpkdaogaaDoor
set_option maxRecDepth 100000
open Go.ChangeShapes Go.WideShapes Go.ChangeAt Go.RowKit

set_option maxRecDepth 100000 in
set_option maxHeartbeats 25600000 in
theorem guardNames_walk {w : World} (hp : Perms w) : Calls Tryd.prog 4 #[] w fun e w' => e = .returned (.bool true) ∧ Ext w w' := by
  obtain ⟨M, M32, M31, C, hM, ml, t32, t31, t1, mbad, m1, m2, m3, cl, c31, m4⟩ := data31
  replace hM := Lib.hid hM
  replace ml := Lib.hid ml
  replace t32 := Lib.hid t32
  replace t31 := Lib.hid t31
  replace t1 := Lib.hid t1
  replace mbad := Lib.hid mbad
  replace m1 := Lib.hid m1
  replace m2 := Lib.hid m2
  replace m3 := Lib.hid m3
  replace cl := Lib.hid cl
  replace c31 := Lib.hid c31
  replace m4 := Lib.hid m4
  have hmk : ∀ W : World, (Instr.makeSlice 37 (.int .i64 33) (.int .i64 33)).run Tryd.prog W = .ok (.slice (some ⟨W.heap.size, 0, none⟩) 33 33) (W.alloc (.cells (zints 33) 3)) := make_Ints 33 (by decide)
  have hO := zints_own 33 (by decide) w (B := w.heap.size) (Nat.le_refl _)
  go_enter Tryd.func4, Tryd.ntmps4
  go_wp2
  clear hmk
  obtain ⟨B, hB⟩ : ∃ n, Array.size (World.heap w) = n := ⟨_, rfl⟩
  rw [hB] at hO ⊢
  go_loopw [2] (fun iv wr => ∃ k : Nat, k ≤ 33 ∧ iv = .int .i64 k ∧ Own wr B 3 1 (.slice (some ⟨B, 0, none⟩) 33 33) 33 ((fl31 k).flatMap irow) ∧ Ext w wr) (fun iv _ => 33 - (intOf iv).toNat)
  case atStart => exact ⟨0, by omega, rfl, hO, (Ext.refl _).alloc _⟩
  case round =>
    obtain ⟨k, hk, rfl, hW, hX⟩ := hrel
    by_cases hlt : k < 33
    · have hlt' : decide ((k : Int) < 33) = true := decide_eq_true (by omega)
      obtain ⟨x0, hx0⟩ : ∃ x, (fl31 k)[k]? = some x := ⟨(fl31 k)[k]'(by rw [fl31_len hk]; exact hlt), by simp⟩
      have f0 := hW.frozen k
      have c0 : World.cell? wr ⟨B, k, none⟩ = some (.int .i64 x0) := by
        have h1 := rows_get irow irow_len (fl31 k) k 0 _ hx0 (by omega)
        rw [Nat.mul_one, Nat.add_zero] at h1
        exact (hW.cellAt k (by omega)).trans h1
      have hBl : B < wr.heap.size := (hW.lt (g := B) rfl).2
      have hi0 : (0 : Int) ≤ (k : Int) := by omega
      have hi1 : (k : Int) < 33 := by omega
      have hkw : IntKind.i64.wrap ((k : Int) + 1) = (k : Int) + 1 := IntWalk.i64_in _ (by omega)
      replace hx0 := Lib.hid hx0
      go_wp2
      go_roundw
      case rel =>
        have hset := Own.set hW k (.int .i64 ((k : Int) + 1))
        rw [irow_set (fl31 k) k ((k : Int) + 1) (by rw [fl31_len hk]; exact hlt), fl31_set hlt] at hset
        exact ⟨k + 1, by omega, by go_num, hset, Ext.setCell hX (by rw [hB]; exact Nat.le_refl _) _⟩
      case measure => simp [intOf]; omega
    · have hke : k = 33 := by omega
      subst hke
      rw [fl31_end, hM.out] at hW
      have hmy : Nts wr (.slice (some ⟨B, 0, none⟩) 33 33) M := nts_own hW ml.out
      have hm32 : Nts wr (.slice (some ⟨B, 0, none⟩) 32 33) M32 := by rw [← t32.out]; exact hmy.take 32 (by rw [ml.out]; decide)
      have hm31 : Nts wr (.slice (some ⟨B, 0, none⟩) 31 33) M31 := by rw [← t31.out]; exact hmy.take 31 (by rw [ml.out]; decide)
      have hm1 : Nts wr (.slice (some ⟨B, 0, none⟩) 1 33) [1] := by rw [← t1.out]; exact hmy.take 1 (by rw [ml.out]; decide)
      have hs32 := slice_upto_Ints (some ⟨B, 0, none⟩) 33 33 32 32 rfl (by decide)
      have hs31 := slice_upto_Ints (some ⟨B, 0, none⟩) 33 33 31 31 rfl (by decide)
      have hs1 := slice_upto_Ints (some ⟨B, 0, none⟩) 33 33 1 1 rfl (by decide)
      clear hW hk hlt hO
      obtain ⟨wo, hwo⟩ : ∃ z, wr = z := ⟨_, rfl⟩
      rw [hwo] at hX hmy hm32 hm31 hm1 ⊢
      clear hwo
      replace hp := hp.ext hX
      have hF100 := Ext.trans (Ext.refl w) hX
      go_wp2
      have i0 := Box.new wo 3 #[.int .i64 0]
      have hsz : Hid ((World.alloc wo (.cells #[.int .i64 0] 3)).heap.size = wo.heap.size + 1) := Hid.mk (by simp)
      have hx101 : Ext wo (World.alloc wo (.cells #[.int .i64 0] 3)) := (Ext.refl _).alloc _
      obtain ⟨w101b, hw101⟩ : ∃ x, World.alloc wo (.cells #[.int .i64 0] 3) = x := ⟨_, rfl⟩
      rw [hw101] at hsz i0 hx101 ⊢
      clear hw101
      replace hp := hp.ext hx101
      replace hmy := hmy.ext hx101
      replace hm32 := hm32.ext hx101
      replace hm31 := hm31.ext hx101
      replace hm1 := hm1.ext hx101
      have hF101 := Ext.trans (hF100) hx101
      have hszp := hsz
      have i1 := Box.new w101b 3 #[.int .i64 (-1)]
      have hsz : Hid ((World.alloc w101b (.cells #[.int .i64 (-1)] 3)).heap.size = w101b.heap.size + 1) := Hid.mk (by simp)
      have hx102 : Ext w101b (World.alloc w101b (.cells #[.int .i64 (-1)] 3)) := (Ext.refl _).alloc _
      obtain ⟨w102b, hw102⟩ : ∃ x, World.alloc w101b (.cells #[.int .i64 (-1)] 3) = x := ⟨_, rfl⟩
      rw [hw102] at hsz i1 hx102 ⊢
      clear hw102
      replace hp := hp.ext hx102
      replace hmy := hmy.ext hx102
      replace hm32 := hm32.ext hx102
      replace hm31 := hm31.ext hx102
      replace hm1 := hm1.ext hx102
      replace i0 := i0.ext hx102
      have hF102 := Ext.trans (hF101) hx102
      rw [hszp.out] at i1 hsz
      clear hszp
      have hszp := hsz
      have i2 := Box.new w102b 3 #[.int .i64 1000001]
      have hsz : Hid ((World.alloc w102b (.cells #[.int .i64 1000001] 3)).heap.size = w102b.heap.size + 1) := Hid.mk (by simp)
      have hx103 : Ext w102b (World.alloc w102b (.cells #[.int .i64 1000001] 3)) := (Ext.refl _).alloc _
      obtain ⟨w103b, hw103⟩ : ∃ x, World.alloc w102b (.cells #[.int .i64 1000001] 3) = x := ⟨_, rfl⟩
      rw [hw103] at hsz i2 hx103 ⊢
      clear hw103
      replace hp := hp.ext hx103
      replace hmy := hmy.ext hx103
      replace hm32 := hm32.ext hx103
      replace hm31 := hm31.ext hx103
      replace hm1 := hm1.ext hx103
      replace i0 := i0.ext hx103
      replace i1 := i1.ext hx103
      have hF103 := Ext.trans (hF102) hx103
      rw [hszp.out] at i2 hsz
      clear hszp
      have hszp := hsz
      have i3 := Box.new w103b 3 #[.int .i64 2, .int .i64 2]
      have hsz : Hid ((World.alloc w103b (.cells #[.int .i64 2, .int .i64 2] 3)).heap.size = w103b.heap.size + 1) := Hid.mk (by simp)
      have hx104 : Ext w103b (World.alloc w103b (.cells #[.int .i64 2, .int .i64 2] 3)) := (Ext.refl _).alloc _
      obtain ⟨w104b, hw104⟩ : ∃ x, World.alloc w103b (.cells #[.int .i64 2, .int .i64 2] 3) = x := ⟨_, rfl⟩
      rw [hw104] at hsz i3 hx104 ⊢
      clear hw104
      replace hp := hp.ext hx104
      replace hmy := hmy.ext hx104
      replace hm32 := hm32.ext hx104
      replace hm31 := hm31.ext hx104
      replace hm1 := hm1.ext hx104
      replace i0 := i0.ext hx104
      replace i1 := i1.ext hx104
      replace i2 := i2.ext hx104
      have hF104 := Ext.trans (hF103) hx104
      rw [hszp.out] at i3 hsz
      clear hszp
      have hszp := hsz
      have i4 := Box.new w104b 3 #[.int .i64 3, .int .i64 2]
      have hsz : Hid ((World.alloc w104b (.cells #[.int .i64 3, .int .i64 2] 3)).heap.size = w104b.heap.size + 1) := Hid.mk (by simp)
      have hx105 : Ext w104b (World.alloc w104b (.cells #[.int .i64 3, .int .i64 2] 3)) := (Ext.refl _).alloc _
      obtain ⟨w105b, hw105⟩ : ∃ x, World.alloc w104b (.cells #[.int .i64 3, .int .i64 2] 3) = x := ⟨_, rfl⟩
      rw [hw105] at hsz i4 hx105 ⊢
      clear hw105
      replace hp := hp.ext hx105
      replace hmy := hmy.ext hx105
      replace hm32 := hm32.ext hx105
      replace hm31 := hm31.ext hx105
      replace hm1 := hm1.ext hx105
      replace i0 := i0.ext hx105
      replace i1 := i1.ext hx105
      replace i2 := i2.ext hx105
      replace i3 := i3.ext hx105
      have hF105 := Ext.trans (hF104) hx105
      rw [hszp.out] at i4 hsz
      clear hszp
      have hszp := hsz
      have bT := Box.new w105b 37 #[.slice (some ⟨B, 0, none⟩) 33 33, .slice (some ⟨wo.heap.size, 0, none⟩) 1 1, .slice (some ⟨wo.heap.size + 1, 0, none⟩) 1 1, .slice (some ⟨wo.heap.size + 1 + 1, 0, none⟩) 1 1, .slice (some ⟨wo.heap.size + 1 + 1 + 1, 0, none⟩) 2 2, .slice (some ⟨wo.heap.size + 1 + 1 + 1 + 1, 0, none⟩) 2 2]
      have hsz : Hid ((World.alloc w105b (.cells #[.slice (some ⟨B, 0, none⟩) 33 33, .slice (some ⟨wo.heap.size, 0, none⟩) 1 1, .slice (some ⟨wo.heap.size + 1, 0, none⟩) 1 1, .slice (some ⟨wo.heap.size + 1 + 1, 0, none⟩) 1 1, .slice (some ⟨wo.heap.size + 1 + 1 + 1, 0, none⟩) 2 2, .slice (some ⟨wo.heap.size + 1 + 1 + 1 + 1, 0, none⟩) 2 2] 37)).heap.size = w105b.heap.size + 1) := Hid.mk (by simp)
      have hx106 : Ext w105b (World.alloc w105b (.cells #[.slice (some ⟨B, 0, none⟩) 33 33, .slice (some ⟨wo.heap.size, 0, none⟩) 1 1, .slice (some ⟨wo.heap.size + 1, 0, none⟩) 1 1, .slice (some ⟨wo.heap.size + 1 + 1, 0, none⟩) 1 1, .slice (some ⟨wo.heap.size + 1 + 1 + 1, 0, none⟩) 2 2, .slice (some ⟨wo.heap.size + 1 + 1 + 1 + 1, 0, none⟩) 2 2] 37)) := (Ext.refl _).alloc _
      obtain ⟨w106b, hw106⟩ : ∃ x, World.alloc w105b (.cells #[.slice (some ⟨B, 0, none⟩) 33 33, .slice (some ⟨wo.heap.size, 0, none⟩) 1 1, .slice (some ⟨wo.heap.size + 1, 0, none⟩) 1 1, .slice (some ⟨wo.heap.size + 1 + 1, 0, none⟩) 1 1, .slice (some ⟨wo.heap.size + 1 + 1 + 1, 0, none⟩) 2 2, .slice (some ⟨wo.heap.size + 1 + 1 + 1 + 1, 0, none⟩) 2 2] 37) = x := ⟨_, rfl⟩
      rw [hw106] at hsz bT hx106 ⊢
      clear hw106
      replace hp := hp.ext hx106
      replace hmy := hmy.ext hx106
      replace hm32 := hm32.ext hx106
      replace hm31 := hm31.ext hx106
      replace hm1 := hm1.ext hx106
      replace i0 := i0.ext hx106
      replace i1 := i1.ext hx106
      replace i2 := i2.ext hx106
      replace i3 := i3.ext hx106
      replace i4 := i4.ext hx106
      have hF106 := Ext.trans (hF105) hx106
      rw [hszp.out] at bT hsz
      clear hszp
      have n0 : Nts w106b (.slice (some ⟨wo.heap.size, 0, none⟩) 1 1) [0] := Nts.of_box i0 rfl (by simp [maxLen]) rfl
      have n1 : Nts w106b (.slice (some ⟨wo.heap.size + 1, 0, none⟩) 1 1) [(-1)] := Nts.of_box i1 rfl (by simp [maxLen]) rfl
      have n2 : Nts w106b (.slice (some ⟨wo.heap.size + 1 + 1, 0, none⟩) 1 1) [1000001] := Nts.of_box i2 rfl (by simp [maxLen]) rfl
      have n3 : Nts w106b (.slice (some ⟨wo.heap.size + 1 + 1 + 1, 0, none⟩) 2 2) [2, 2] := Nts.of_box i3 rfl (by simp [maxLen]) rfl
      have n4 : Nts w106b (.slice (some ⟨wo.heap.size + 1 + 1 + 1 + 1, 0, none⟩) 2 2) [3, 2] := Nts.of_box i4 rfl (by simp [maxLen]) rfl
      clear i0 i1 i2 i3 i4
      obtain ⟨TB, hTB⟩ : ∃ n, wo.heap.size + 1 + 1 + 1 + 1 + 1 = n := ⟨_, rfl⟩
      have htb : Hid (∀ i : Nat, i < 6 → ∃ a n c l, World.cell? w106b ⟨TB, i, none⟩ = some (.slice a n c) ∧ Nts w106b (.slice a n c) l ∧ bad31 l) := by
        refine Hid.mk fun i hi => ?_
        rw [← hTB]
        rcases (by omega : i = 0 ∨ i = 1 ∨ i = 2 ∨ i = 3 ∨ i = 4 ∨ i = 5) with rfl | rfl | rfl | rfl | rfl | rfl
        · exact ⟨_, _, _, M, bT.cell 0, hmy, mbad.out⟩
        · exact ⟨_, _, _, _, bT.cell 1, n0, bads31_0⟩
        · exact ⟨_, _, _, _, bT.cell 2, n1, bads31_1⟩
        · exact ⟨_, _, _, _, bT.cell 3, n2, bads31_2⟩
        · exact ⟨_, _, _, _, bT.cell 4, n3, bads31_3⟩
        · exact ⟨_, _, _, _, bT.cell 5, n4, bads31_4⟩
      first | rw [hTB] | (simp only [Nat.add_assoc] at hTB ⊢; rw [hTB])
      clear bT n0 n1 n2 n3 n4 hTB
      go_loopw [4] (fun iv wr => ∃ i : Nat, i ≤ 6 ∧ iv = .int .i64 i ∧ Ext w106b wr) (fun iv _ => 6 - (intOf iv).toNat)
      case atStart => exact ⟨0, by omega, rfl, Ext.refl _⟩
      case round =>
        obtain ⟨i, hi, rfl, hQ⟩ := hrel
        by_cases hlt : i < 6
        · have hlt' : decide ((i : Int) < 6) = true := decide_eq_true (by omega)
          obtain ⟨la, ln, lc, ll, hcell, hl, e1, e2, e3, e4, e5, e6, e7⟩ := htb.out i hlt
          replace hcell := Ext.cell hQ hcell
          replace hl := hl.ext hQ
          replace hp := hp.ext hQ
          replace e1 := Lib.hid e1; replace e2 := Lib.hid e2; replace e3 := Lib.hid e3; replace e4 := Lib.hid e4; replace e5 := Lib.hid e5; replace e6 := Lib.hid e6; replace e7 := Lib.hid e7
          have hi0 : (0 : Int) ≤ (i : Int) := by omega
          have hi1 : (i : Int) < 6 := by omega
          clear hmy hm32 hm31 hm1
          have hcell_l := World.block_lt_of_cell? _ _ hcell
          go_wp2_with fail
          try clear hcell_l
          refine (guard_Enter (-1) (hl.ext (by repeat (first | exact Ext.refl _ | apply Ext.alloc | apply Ext.drew)))).mono ?_
          rintro e w201 ⟨v1, rfl, -, hZ200⟩
          have hE200 : Ext wr w201 := Ext.trans (by repeat (first | exact Ext.refl _ | apply Ext.alloc | apply Ext.drew)) hZ200
          replace hp := hp.ext hE200
          replace hl := hl.ext hE200
          replace hcell := Ext.cell hE200 hcell
          have hF200 := Ext.trans (Ext.refl wr) hE200
          rw [e2.out]
          have hcell_l := World.block_lt_of_cell? _ _ hcell
          go_wp2_with fail
          try clear hcell_l
          refine (guard_Leave (hl.ext (by repeat (first | exact Ext.refl _ | apply Ext.alloc | apply Ext.drew)))).mono ?_
          rintro e w202 ⟨v2, rfl, -, hZ201⟩
          have hE201 : Ext w201 w202 := Ext.trans (by repeat (first | exact Ext.refl _ | apply Ext.alloc | apply Ext.drew)) hZ201
          replace hp := hp.ext hE201
          replace hl := hl.ext hE201
          replace hcell := Ext.cell hE201 hcell
          have hF201 := Ext.trans (hF200) hE201
          rw [e3.out]
          have hcell_l := World.block_lt_of_cell? _ _ hcell
          go_wp2_with fail
          try clear hcell_l
          refine (guard_Held (l := [⟨0, 0, 0⟩]) (by repeat (first | exact Its.lit _ _ [⟨0, 0, 0⟩] _ _ (by first | rfl | (simp; done)) rfl (by simp [maxLen]) rfl | refine Its.ext ?_ (Ext.refl _).drew | refine Its.ext ?_ ((Ext.refl _).alloc _))) (hl.ext (by repeat (first | exact Ext.refl _ | apply Ext.alloc | apply Ext.drew)))).mono ?_
          rintro e w203 ⟨rfl, hZ202⟩
          have hE202 : Ext w202 w203 := Ext.trans (by repeat (first | exact Ext.refl _ | apply Ext.alloc | apply Ext.drew)) hZ202
          replace hp := hp.ext hE202
          replace hl := hl.ext hE202
          replace hcell := Ext.cell hE202 hcell
          have hF202 := Ext.trans (hF201) hE202
          rw [e4.out]
          have hcell_l := World.block_lt_of_cell? _ _ hcell
          go_wp2_with fail
          try clear hcell_l
          refine (guard_ReadO (l := [⟨0, 0, 0⟩]) 1 (by repeat (first | exact Its.lit _ _ [⟨0, 0, 0⟩] _ _ (by first | rfl | (simp; done)) rfl (by simp [maxLen]) rfl | refine Its.ext ?_ (Ext.refl _).drew | refine Its.ext ?_ ((Ext.refl _).alloc _))) (hl.ext (by repeat (first | exact Ext.refl _ | apply Ext.alloc | apply Ext.drew)))).mono ?_
          rintro e w204 ⟨v3, rfl, -, hZ203⟩
          have hE203 : Ext w203 w204 := Ext.trans (by repeat (first | exact Ext.refl _ | apply Ext.alloc | apply Ext.drew)) hZ203
          replace hp := hp.ext hE203
          replace hl := hl.ext hE203
          replace hcell := Ext.cell hE203 hcell
          have hF203 := Ext.trans (hF202) hE203
          rw [e5.out]
          have hcell_l := World.block_lt_of_cell? _ _ hcell
          go_wp2_with fail
          try clear hcell_l
          refine (guard_WriteO (l := [⟨0, 0, 0⟩]) 1 (by repeat (first | exact Its.lit _ _ [⟨0, 0, 0⟩] _ _ (by first | rfl | (simp; done)) rfl (by simp [maxLen]) rfl | refine Its.ext ?_ (Ext.refl _).drew | refine Its.ext ?_ ((Ext.refl _).alloc _))) (hl.ext (by repeat (first | exact Ext.refl _ | apply Ext.alloc | apply Ext.drew)))).mono ?_
          rintro e w205 ⟨v4, rfl, -, hZ204⟩
          have hE204 : Ext w204 w205 := Ext.trans (by repeat (first | exact Ext.refl _ | apply Ext.alloc | apply Ext.drew)) hZ204
          replace hp := hp.ext hE204
          replace hl := hl.ext hE204
          replace hcell := Ext.cell hE204 hcell
          have hF204 := Ext.trans (hF203) hE204
          rw [e6.out]
          have hcell_l := World.block_lt_of_cell? _ _ hcell
          go_wp2_with fail
          try clear hcell_l
          refine (guard_RetagO (l := [⟨0, 0, 0⟩]) (k := 9) (hp.ext (by repeat (first | exact Ext.refl _ | apply Ext.alloc | apply Ext.drew))) (by unfold u8B; decide) 1 ⟨0, 0, 0⟩ (by repeat (first | exact Its.lit _ _ [⟨0, 0, 0⟩] _ _ (by first | rfl | (simp; done)) rfl (by simp [maxLen]) rfl | refine Its.ext ?_ (Ext.refl _).drew | refine Its.ext ?_ ((Ext.refl _).alloc _))) (hl.ext (by repeat (first | exact Ext.refl _ | apply Ext.alloc | apply Ext.drew)))).mono ?_
          rintro e w206 ⟨v5, rfl, -, hZ205⟩
          have hE205 : Ext w205 w206 := Ext.trans (by repeat (first | exact Ext.refl _ | apply Ext.alloc | apply Ext.drew)) hZ205
          replace hp := hp.ext hE205
          replace hl := hl.ext hE205
          replace hcell := Ext.cell hE205 hcell
          have hF205 := Ext.trans (hF204) hE205
          rw [e7.out]
          have hcell_l := World.block_lt_of_cell? _ _ hcell
          go_wp2_with fail
          try clear hcell_l
          refine (guard_Check (hl.ext (by repeat (first | exact Ext.refl _ | apply Ext.alloc | apply Ext.drew)))).mono ?_
          rintro e w207 ⟨rfl, rfl⟩
          rw [e1.out]
          have hcell_l := World.block_lt_of_cell? _ _ hcell
          go_wp2
          go_roundw
          case rel => first | exact ⟨i + 1, by omega, by go_num, hQ.trans (hF205)⟩ | ((repeat apply Exists.intro); exact ⟨⟨i + 1, by omega, by go_num, hQ.trans (hF205)⟩, rfl⟩)
          case measure => simp [intOf]; omega
        · have hie : i = 6 := by omega
          subst hie
          clear hlt hi htb
          replace hp := hp.ext hQ
          replace hmy := hmy.ext hQ
          replace hm32 := hm32.ext hQ
          replace hm31 := hm31.ext hQ
          replace hm1 := hm1.ext hQ
          have hF300 := Ext.trans (hF106) hQ
          have hsz : Hid (0 = 0) := Hid.mk rfl
          go_wp2_with fail
          refine (guard_Enter 33 (hm32.ext (by repeat (first | exact Ext.refl _ | apply Ext.alloc | apply Ext.drew)))).mono ?_
          rintro e w302 ⟨vz301, rfl, -, hZ301⟩
          have hE301 : Ext wr w302 := Ext.trans (by repeat (first | exact Ext.refl _ | apply Ext.alloc | apply Ext.drew)) hZ301
          replace hp := hp.ext hE301
          replace hmy := hmy.ext hE301
          replace hm32 := hm32.ext hE301
          replace hm31 := hm31.ext hE301
          replace hm1 := hm1.ext hE301
          have hF301 := Ext.trans (hF300) hE301
          rw [m1.out]
          go_wp2_with fail
          refine (guard_Enter 32 (hm32.ext (by repeat (first | exact Ext.refl _ | apply Ext.alloc | apply Ext.drew)))).mono ?_
          rintro e w303 ⟨vz302, rfl, -, hZ302⟩
          have hE302 : Ext w302 w303 := Ext.trans (by repeat (first | exact Ext.refl _ | apply Ext.alloc | apply Ext.drew)) hZ302
          replace hp := hp.ext hE302
          replace hmy := hmy.ext hE302
          replace hm32 := hm32.ext hE302
          replace hm31 := hm31.ext hE302
          replace hm1 := hm1.ext hE302
          have hF302 := Ext.trans (hF301) hE302
          rw [m2.out]
          go_wp2_with fail
          refine (guard_Enter 1000000 (hm31.ext (by repeat (first | exact Ext.refl _ | apply Ext.alloc | apply Ext.drew)))).mono ?_
          rintro e w304 ⟨vhC, rfl, hC, hZ303⟩
          have hE303 : Ext w303 w304 := Ext.trans (by repeat (first | exact Ext.refl _ | apply Ext.alloc | apply Ext.drew)) hZ303
          replace hp := hp.ext hE303
          replace hmy := hmy.ext hE303
          replace hm32 := hm32.ext hE303
          replace hm31 := hm31.ext hE303
          replace hm1 := hm1.ext hE303
          have hF303 := Ext.trans (hF302) hE303
          rw [m3.out] at hC ⊢
          dsimp only at hC ⊢
          obtain ⟨ahC, chC, rfl, -⟩ := hC.form
          obtain ⟨cb, co, rfl, -, hc31⟩ := hC.cell c31.out
          rw [cl.out]
          clear hC
          have hc31_l := World.block_lt_of_cell? _ _ hc31
          go_wp2_with fail
          try clear hc31_l
          refine (guard_Enter 0 (Nts.nil _)).mono ?_
          rintro e w305 ⟨vz304, rfl, -, hZ304⟩
          have hE304 : Ext w304 w305 := Ext.trans (by repeat (first | exact Ext.refl _ | apply Ext.alloc | apply Ext.drew)) hZ304
          replace hp := hp.ext hE304
          replace hmy := hmy.ext hE304
          replace hm32 := hm32.ext hE304
          replace hm31 := hm31.ext hE304
          replace hm1 := hm1.ext hE304
          replace hc31 := Ext.cell hE304 hc31
          have hF304 := Ext.trans (hF303) hE304
          rw [gu_e]
          have hc31_l := World.block_lt_of_cell? _ _ hc31
          go_wp2_with fail
          try clear hc31_l
          refine (guard_Enter 1000001 (Nts.nil _)).mono ?_
          rintro e w306 ⟨vz305, rfl, -, hZ305⟩
          have hE305 : Ext w305 w306 := Ext.trans (by repeat (first | exact Ext.refl _ | apply Ext.alloc | apply Ext.drew)) hZ305
          replace hp := hp.ext hE305
          replace hmy := hmy.ext hE305
          replace hm32 := hm32.ext hE305
          replace hm31 := hm31.ext hE305
          replace hm1 := hm1.ext hE305
          replace hc31 := Ext.cell hE305 hc31
          have hF305 := Ext.trans (hF304) hE305
          rw [gu_f]
          have hc31_l := World.block_lt_of_cell? _ _ hc31
          go_wp2_with fail
          try clear hc31_l
          refine (guard_Leave (Nts.nil _)).mono ?_
          rintro e w307 ⟨vz306, rfl, -, hZ306⟩
          have hE306 : Ext w306 w307 := Ext.trans (by repeat (first | exact Ext.refl _ | apply Ext.alloc | apply Ext.drew)) hZ306
          replace hp := hp.ext hE306
          replace hmy := hmy.ext hE306
          replace hm32 := hm32.ext hE306
          replace hm31 := hm31.ext hE306
          replace hm1 := hm1.ext hE306
          replace hc31 := Ext.cell hE306 hc31
          have hF306 := Ext.trans (hF305) hE306
          rw [gu_g]
          have hc31_l := World.block_lt_of_cell? _ _ hc31
          go_wp2_with fail
          try clear hc31_l
          refine (guard_Leave (hm1.ext (by repeat (first | exact Ext.refl _ | apply Ext.alloc | apply Ext.drew)))).mono ?_
          rintro e w308 ⟨vhh, rfl, hh, hZ307⟩
          have hE307 : Ext w307 w308 := Ext.trans (by repeat (first | exact Ext.refl _ | apply Ext.alloc | apply Ext.drew)) hZ307
          replace hp := hp.ext hE307
          replace hmy := hmy.ext hE307
          replace hm32 := hm32.ext hE307
          replace hm31 := hm31.ext hE307
          replace hm1 := hm1.ext hE307
          replace hc31 := Ext.cell hE307 hc31
          have hF307 := Ext.trans (hF306) hE307
          rw [gu_h] at hh ⊢
          dsimp only at hh ⊢
          obtain ⟨ahh, chh, rfl, -⟩ := hh.form
          clear hh
          have hc31_l := World.block_lt_of_cell? _ _ hc31
          go_wp2_with fail
          try clear hc31_l
          refine (guard_Held (l := [⟨1, 0, 0⟩, ⟨9, 0, 0⟩]) (run := []) (by repeat (first | exact Its.nil _ | exact Its.lit _ _ [⟨1, 0, 0⟩, ⟨9, 0, 0⟩] _ _ (by first | rfl | (simp; done)) rfl (by simp [maxLen]) rfl | refine Its.ext ?_ (Ext.refl _).drew | refine Its.ext ?_ ((Ext.refl _).alloc _))) (Nts.nil _)).mono ?_
          rintro e w309 ⟨rfl, hZ308⟩
          have hE308 : Ext w308 w309 := Ext.trans (by repeat (first | exact Ext.refl _ | apply Ext.alloc | apply Ext.drew)) hZ308
          replace hp := hp.ext hE308
          replace hmy := hmy.ext hE308
          replace hm32 := hm32.ext hE308
          replace hm31 := hm31.ext hE308
          replace hm1 := hm1.ext hE308
          replace hc31 := Ext.cell hE308 hc31
          have hF308 := Ext.trans (hF307) hE308
          rw [gu_j]
          have hc31_l := World.block_lt_of_cell? _ _ hc31
          go_wp2_with fail
          try clear hc31_l
          refine (guard_Held (l := [⟨1, 0, 0⟩, ⟨2, 0, 4⟩]) (run := [3]) (by repeat (first | exact Its.nil _ | exact Its.lit _ _ [⟨1, 0, 0⟩, ⟨2, 0, 4⟩] _ _ (by first | rfl | (simp; done)) rfl (by simp [maxLen]) rfl | refine Its.ext ?_ (Ext.refl _).drew | refine Its.ext ?_ ((Ext.refl _).alloc _))) (by repeat (first | exact Nts.litl _ _ [3] _ _ (by first | rfl | (simp; done)) rfl (by simp [maxLen]) rfl | refine Nts.ext ?_ (Ext.refl _).drew | refine Nts.ext ?_ ((Ext.refl _).alloc _)))).mono ?_
          rintro e w310 ⟨rfl, hZ309⟩
          have hE309 : Ext w309 w310 := Ext.trans (by repeat (first | exact Ext.refl _ | apply Ext.alloc | apply Ext.drew)) hZ309
          replace hp := hp.ext hE309
          replace hmy := hmy.ext hE309
          replace hm32 := hm32.ext hE309
          replace hm31 := hm31.ext hE309
          replace hm1 := hm1.ext hE309
          replace hc31 := Ext.cell hE309 hc31
          have hF309 := Ext.trans (hF308) hE309
          rw [gu_k]
          have hc31_l := World.block_lt_of_cell? _ _ hc31
          go_wp2_with fail
          try clear hc31_l
          refine (guard_Held (l := [⟨1, 0, 0⟩, ⟨2, 0, 4⟩, ⟨2, 0, 3⟩]) (run := [3, 4]) (by repeat (first | exact Its.nil _ | exact Its.lit _ _ [⟨1, 0, 0⟩, ⟨2, 0, 4⟩, ⟨2, 0, 3⟩] _ _ (by first | rfl | (simp; done)) rfl (by simp [maxLen]) rfl | refine Its.ext ?_ (Ext.refl _).drew | refine Its.ext ?_ ((Ext.refl _).alloc _))) (by repeat (first | exact Nts.litl _ _ [3, 4] _ _ (by first | rfl | (simp; done)) rfl (by simp [maxLen]) rfl | refine Nts.ext ?_ (Ext.refl _).drew | refine Nts.ext ?_ ((Ext.refl _).alloc _)))).mono ?_
          rintro e w311 ⟨rfl, hZ310⟩
          have hE310 : Ext w310 w311 := Ext.trans (by repeat (first | exact Ext.refl _ | apply Ext.alloc | apply Ext.drew)) hZ310
          replace hp := hp.ext hE310
          replace hmy := hmy.ext hE310
          replace hm32 := hm32.ext hE310
          replace hm31 := hm31.ext hE310
          replace hm1 := hm1.ext hE310
          replace hc31 := Ext.cell hE310 hc31
          have hF310 := Ext.trans (hF309) hE310
          rw [gu_l]
          have hc31_l := World.block_lt_of_cell? _ _ hc31
          go_wp2_with fail
          try clear hc31_l
          refine (guard_Held (l := []) (run := []) (Its.nil _) (Nts.nil _)).mono ?_
          rintro e w312 ⟨rfl, hZ311⟩
          have hE311 : Ext w311 w312 := Ext.trans (by repeat (first | exact Ext.refl _ | apply Ext.alloc | apply Ext.drew)) hZ311
          replace hp := hp.ext hE311
          replace hmy := hmy.ext hE311
          replace hm32 := hm32.ext hE311
          replace hm31 := hm31.ext hE311
          replace hm1 := hm1.ext hE311
          replace hc31 := Ext.cell hE311 hc31
          have hF311 := Ext.trans (hF310) hE311
          rw [gu_m]
          have hc31_l := World.block_lt_of_cell? _ _ hc31
          go_upto_region 30 with fail
          try clear hc31_l
          have bS := Box.new w312 23 #[.int .u8 1, .int .i64 1, .int .i64 0, .int .u8 4, .int .i64 2, .int .i64 5, .int .u8 2, .int .i64 3, .int .i64 5, .int .u8 3, .int .i64 4, .int .i64 5]
          have hsz : Hid ((World.alloc w312 (.cells #[.int .u8 1, .int .i64 1, .int .i64 0, .int .u8 4, .int .i64 2, .int .i64 5, .int .u8 2, .int .i64 3, .int .i64 5, .int .u8 3, .int .i64 4, .int .i64 5] 23)).heap.size = w312.heap.size + 1) := Hid.mk (by simp)
          have hx312 : Ext w312 (World.alloc w312 (.cells #[.int .u8 1, .int .i64 1, .int .i64 0, .int .u8 4, .int .i64 2, .int .i64 5, .int .u8 2, .int .i64 3, .int .i64 5, .int .u8 3, .int .i64 4, .int .i64 5] 23)) := (Ext.refl _).alloc _
          obtain ⟨w312b, hw312⟩ : ∃ x, World.alloc w312 (.cells #[.int .u8 1, .int .i64 1, .int .i64 0, .int .u8 4, .int .i64 2, .int .i64 5, .int .u8 2, .int .i64 3, .int .i64 5, .int .u8 3, .int .i64 4, .int .i64 5] 23) = x := ⟨_, rfl⟩
          rw [hw312] at hsz bS hx312 ⊢
          clear hw312
          replace hp := hp.ext hx312
          replace hmy := hmy.ext hx312
          replace hm32 := hm32.ext hx312
          replace hm31 := hm31.ext hx312
          replace hm1 := hm1.ext hx312
          replace hc31 := Ext.cell hx312 hc31
          have hF312 := Ext.trans (hF311) hx312
          obtain ⟨SB, hSB⟩ : ∃ n, w312.heap.size = n := ⟨_, rfl⟩
          rw [hSB] at bS ⊢
          clear hSB
          have hS : Its w312b (.slice (some ⟨SB, 0, none⟩) 4 4) S31 := Its.of_box (n := 4) bS rfl (by simp [maxLen]) rfl
          clear bS
          have hc31_l := World.block_lt_of_cell? _ _ hc31
          go_wp2_with fail
          try clear hc31_l
          refine (guard_ReadO (l := S31) (run := [5]) 1 (hS.ext (by repeat (first | exact Ext.refl _ | apply Ext.alloc | apply Ext.drew))) (by repeat (first | exact Nts.litl _ _ [5] _ _ (by first | rfl | (simp; done)) rfl (by simp [maxLen]) rfl | refine Nts.ext ?_ (Ext.refl _).drew | refine Nts.ext ?_ ((Ext.refl _).alloc _)))).mono ?_
          rintro e w314 ⟨vhx, rfl, ohx, hZ313⟩
          have hE313 : Ext w312b w314 := Ext.trans (by repeat (first | exact Ext.refl _ | apply Ext.alloc | apply Ext.drew)) hZ313
          replace hp := hp.ext hE313
          replace hmy := hmy.ext hE313
          replace hm32 := hm32.ext hE313
          replace hm31 := hm31.ext hE313
          replace hm1 := hm1.ext hE313
          replace hS := hS.ext hE313
          replace hc31 := Ext.cell hE313 hc31
          have hF313 := Ext.trans (hF312) hE313
          rw [gu_p] at ohx ⊢
          have hx : Its w314 vhx S31 := ohx.its
          obtain ⟨ahx, chx, rfl, -⟩ := hx.form
          clear ohx
          dsimp only at hx ⊢
          have hc31_l := World.block_lt_of_cell? _ _ hc31
          go_wp2_with fail
          try clear hc31_l
          refine (guard_RetagO (l := S31) (run := [5]) (k := 2) (hp.ext (by repeat (first | exact Ext.refl _ | apply Ext.alloc | apply Ext.drew))) (by unfold u8B; decide) 1 ⟨0, 6, 0⟩ (hS.ext (by repeat (first | exact Ext.refl _ | apply Ext.alloc | apply Ext.drew))) (by repeat (first | exact Nts.litl _ _ [5] _ _ (by first | rfl | (simp; done)) rfl (by simp [maxLen]) rfl | refine Nts.ext ?_ (Ext.refl _).drew | refine Nts.ext ?_ ((Ext.refl _).alloc _)))).mono ?_
          rintro e w315 ⟨vz314, rfl, -, hZ314⟩
          have hE314 : Ext w314 w315 := Ext.trans (by repeat (first | exact Ext.refl _ | apply Ext.alloc | apply Ext.drew)) hZ314
          replace hp := hp.ext hE314
          replace hmy := hmy.ext hE314
          replace hm32 := hm32.ext hE314
          replace hm31 := hm31.ext hE314
          replace hm1 := hm1.ext hE314
          replace hS := hS.ext hE314
          replace hx := hx.ext hE314
          replace hc31 := Ext.cell hE314 hc31
          have hF314 := Ext.trans (hF313) hE314
          rw [gu_r]
          have hc31_l := World.block_lt_of_cell? _ _ hc31
          go_upto_region 32 with fail
          try clear hc31_l
          have hs44 := slice_full4 SB 0
          refine wp_region_go (L := [Pr.eq (.slice (some ⟨SB, 0, none⟩) 4 4), Pr.eq (.slice (some ⟨SB, 0, none⟩) 4 4), PrEx, PrEp, Pr.eq (.agg #[.int .u8 1, .int .i64 2, .int .i64 5]), PrI [⟨1, 2, 5⟩], PrI (S31 ++ [⟨1, 2, 5⟩]), PrN [5], (PrRes 2 0), (PrRes 2 0), Pr.any, Pr.eq (.int .u8 2), Pr.eq (.int .i64 0), Pr.any, Pr.eq (.int .u8 2), Pr.eq (.int .i64 0)]) (by kernel_rfl) (by kernel_rfl) ?_ ?_
          · refine ⟨?_, ?_, ?_, ?_, ?_, ?_, ?_, ?_, ?_, ?_, ?_, ?_, ?_, ?_, ?_, ?_, trivial⟩
            · intro a w hE hd ho
              refine .inl ⟨rfl, ?_⟩
              intro K hK
              have hF : Ext w315 w := Ext.trans ((Ext.refl _).drew) hE
              have e42 : a.eval (.tmp 42) = .slice (some ⟨SB, 0, none⟩) 4 4 := ho 42 (by kernel_rfl)
              rw [eval_tmp] at e42
              clear hd ho
              replace hK := Lib.hid hK
              go_simp
              exact hK.out _ _ rfl (Ext.refl _)
            · intro a w hE hd ho
              refine .inl ⟨rfl, ?_⟩
              intro K hK
              have hF : Ext w315 w := Ext.trans ((Ext.refl _).drew) hE
              have e256 : a.eval (.tmp 256) = .slice (some ⟨SB, 0, none⟩) 4 4 := hd 0 (by kernel_rfl)
              rw [eval_tmp] at e256
              clear hd ho
              replace hK := Lib.hid hK
              go_simp
              exact hK.out _ _ rfl (Ext.refl _)
            · intro a w hE hd ho
              refine .inl ⟨rfl, ?_⟩
              intro K hK
              have hF : Ext w315 w := Ext.trans ((Ext.refl _).drew) hE
              clear hd ho
              replace hK := Lib.hid hK
              go_simp
              refine (law31_example _).mono ?_
              rintro e wz ⟨vq, rfl, oq, hZ⟩
              go_simp
              exact hK.out _ _ (exC_of oq) hZ
            · intro a w hE hd ho
              refine .inl ⟨rfl, ?_⟩
              intro K hK
              have hF : Ext w315 w := Ext.trans ((Ext.refl _).drew) hE
              obtain ⟨gx, cx, e258, gc⟩ : ∃ g c, a.eval (.tmp 258) = .slice (some ⟨g, 0, none⟩) 2 c ∧ ExC w g := hd 2 (by kernel_rfl)
              rw [eval_tmp] at e258
              clear hd ho
              replace hK := Lib.hid hK
              go_simp
              exact hK.out _ _ ⟨gx, rfl, gc⟩ (Ext.refl _)
            · intro a w hE hd ho
              refine .inl ⟨rfl, ?_⟩
              intro K hK
              have hF : Ext w315 w := Ext.trans ((Ext.refl _).drew) hE
              obtain ⟨gx, e259, gc⟩ : ∃ g, a.eval (.tmp 259) = .pointer (some ⟨g, 3, none⟩) ∧ ExC w g := hd 3 (by kernel_rfl)
              rw [eval_tmp] at e259
              obtain ⟨gc0, gc1, gc2⟩ := gc
              clear hd ho
              replace hK := Lib.hid hK
              go_simp
              exact hK.out _ _ rfl (Ext.refl _)
            · intro a w hE hd ho
              refine .inl ⟨rfl, ?_⟩
              intro K hK
              have hF : Ext w315 w := Ext.trans ((Ext.refl _).drew) hE
              have e260 : a.eval (.tmp 260) = .agg #[.int .u8 1, .int .i64 2, .int .i64 5] := hd 4 (by kernel_rfl)
              rw [eval_tmp] at e260
              clear hd ho
              replace hK := Lib.hid hK
              go_simp
              exact hK.out _ _ (Its.lit w _ [⟨1, 2, 5⟩] _ _ rfl rfl (by simp [maxLen]) rfl) ((Ext.refl _).alloc _)
            · intro a w hE hd ho
              refine .inl ⟨rfl, ?_⟩
              intro K hK
              have hF : Ext w315 w := Ext.trans ((Ext.refl _).drew) hE
              have e257 : a.eval (.tmp 257) = .slice (some ⟨SB, 0, none⟩) 4 4 := hd 1 (by kernel_rfl)
              have h261 : Its w (a.eval (.tmp 261)) [⟨1, 2, 5⟩] := hd 5 (by kernel_rfl)
              obtain ⟨xa, xc, e261, -⟩ := h261.form
              rw [e261] at h261
              obtain ⟨i3, z3, hi, hz, hi3, hz3, hby⟩ := Item.infoE
              refine wp_append_full rfl (.tmp 257) (.tmp 261) 31 rfl Tryd.underlying31 hi hz hi3 hby hz3 (by decide) e257 (hS.ext hF) (by decide) e261 h261 (by decide) (by simp [Item.row, Value.oneCell']) (by simp [maxLen]) (by decide) ?_
              intro v' w' hO hZ
              refine hK _ _ ?_ hZ
              show Its w' v' (S31 ++ [⟨1, 2, 5⟩])
              have h := hO.sl
              unfold Its
              rw [List.flatMap_append]
              exact h
            · intro a w hE hd ho
              refine .inl ⟨rfl, ?_⟩
              intro K hK
              have hF : Ext w315 w := Ext.trans ((Ext.refl _).drew) hE
              clear hd ho
              replace hK := Lib.hid hK
              go_simp
              exact hK.out _ _ (Nts.litl w _ [5] _ _ rfl rfl (by simp [maxLen]) rfl) ((Ext.refl _).alloc _)
            · intro a w hE hd ho
              refine .inl ⟨rfl, ?_⟩
              intro K hK
              have hF : Ext w315 w := Ext.trans ((Ext.refl _).drew) hE
              have h262 : Its w (a.eval (.tmp 262)) (S31 ++ [⟨1, 2, 5⟩]) := hd 6 (by kernel_rfl)
              obtain ⟨xa262, xc262, e262, xl262, -⟩ := h262.form
              rw [e262] at h262
              rw [eval_tmp] at e262
              have h263 : Nts w (a.eval (.tmp 263)) [5] := hd 7 (by kernel_rfl)
              obtain ⟨xa263, xc263, e263, xl263, -⟩ := h263.form
              rw [e263] at h263
              rw [eval_tmp] at e263
              clear hd ho
              replace hK := Lib.hid hK
              go_simp
              refine (guard_ReadO (l := S31 ++ [⟨1, 2, 5⟩]) (run := [5]) 1 h262 h263).mono ?_
              rintro e wz ⟨vr, rfl, -, hZ⟩
              rw [gu_u]
              go_simp
              exact hK.out _ _ ⟨_, rfl⟩ hZ
            · intro a w hE hd ho
              refine .inl ⟨rfl, ?_⟩
              intro K hK
              have hF : Ext w315 w := Ext.trans ((Ext.refl _).drew) hE
              obtain ⟨ux264, e264⟩ : ∃ u, a.eval (.tmp 264) = .tuple #[u, .int .u8 2, .int .i64 0] := hd 8 (by kernel_rfl)
              rw [eval_tmp] at e264
              clear hd ho
              replace hK := Lib.hid hK
              go_simp
              exact hK.out _ _ ⟨_, rfl⟩ (Ext.refl _)
            · intro a w hE hd ho
              refine .inl ⟨rfl, ?_⟩
              intro K hK
              have hF : Ext w315 w := Ext.trans ((Ext.refl _).drew) hE
              obtain ⟨ux255, e255⟩ : ∃ u, a.eval (.tmp 255) = .tuple #[u, .int .u8 2, .int .i64 0] := hd 9 (by kernel_rfl)
              rw [eval_tmp] at e255
              clear hd ho
              replace hK := Lib.hid hK
              go_simp
              exact hK.out _ _ trivial (Ext.refl _)
            · intro a w hE hd ho
              refine .inl ⟨rfl, ?_⟩
              intro K hK
              have hF : Ext w315 w := Ext.trans ((Ext.refl _).drew) hE
              obtain ⟨ux255, e255⟩ : ∃ u, a.eval (.tmp 255) = .tuple #[u, .int .u8 2, .int .i64 0] := hd 9 (by kernel_rfl)
              rw [eval_tmp] at e255
              clear hd ho
              replace hK := Lib.hid hK
              go_simp
              exact hK.out _ _ rfl (Ext.refl _)
            · intro a w hE hd ho
              refine .inl ⟨rfl, ?_⟩
              intro K hK
              have hF : Ext w315 w := Ext.trans ((Ext.refl _).drew) hE
              obtain ⟨ux255, e255⟩ : ∃ u, a.eval (.tmp 255) = .tuple #[u, .int .u8 2, .int .i64 0] := hd 9 (by kernel_rfl)
              rw [eval_tmp] at e255
              clear hd ho
              replace hK := Lib.hid hK
              go_simp
              exact hK.out _ _ rfl (Ext.refl _)
            · intro a w hE hd ho
              refine .inl ⟨rfl, ?_⟩
              intro K hK
              have hF : Ext w315 w := Ext.trans ((Ext.refl _).drew) hE
              clear hd ho
              replace hK := Lib.hid hK
              go_simp
              exact hK.out _ _ trivial (Ext.refl _)
            · intro a w hE hd ho
              refine .inl ⟨rfl, ?_⟩
              intro K hK
              have hF : Ext w315 w := Ext.trans ((Ext.refl _).drew) hE
              have e266 : a.eval (.tmp 266) = .int .u8 2 := hd 11 (by kernel_rfl)
              rw [eval_tmp] at e266
              clear hd ho
              replace hK := Lib.hid hK
              go_simp
              exact hK.out _ _ rfl (Ext.refl _)
            · intro a w hE hd ho
              refine .inl ⟨rfl, ?_⟩
              intro K hK
              have hF : Ext w315 w := Ext.trans ((Ext.refl _).drew) hE
              have e267 : a.eval (.tmp 267) = .int .i64 0 := hd 12 (by kernel_rfl)
              rw [eval_tmp] at e267
              clear hd ho
              replace hK := Lib.hid hK
              go_simp
              exact hK.out _ _ rfl (Ext.refl _)
          · intro vals w hE hv
            have hF : Ext w315 w := Ext.trans ((Ext.refl _).drew) hE
            have e50 : vals 14 = .int .u8 2 := hv 14 (by decide)
            have e51 : vals 15 = .int .i64 0 := hv 15 (by decide)
            clear hv hE hs44
            obtain ⟨wy, hwy⟩ : ∃ z, w = z := ⟨_, rfl⟩
            rw [hwy] at hF ⊢
            clear hwy
            simp only [putAll]
            go_simp
            try rw [e50, e51]
            clear e50 e51
            replace hp := hp.ext hF
            replace hmy := hmy.ext hF
            replace hm32 := hm32.ext hF
            replace hm31 := hm31.ext hF
            replace hm1 := hm1.ext hF
            replace hS := hS.ext hF
            replace hx := hx.ext hF
            replace hc31 := Ext.cell hF hc31
            have hF315 := Ext.trans (hF314) hF
            have hc31_l := World.block_lt_of_cell? _ _ hc31
            go_wp2_with fail
            try clear hc31_l
            refine (guard_ReadO (l := S31) (run := [5]) 9 (hS.ext (by repeat (first | exact Ext.refl _ | apply Ext.alloc | apply Ext.drew))) (by repeat (first | exact Nts.litl _ _ [5] _ _ (by first | rfl | (simp; done)) rfl (by simp [maxLen]) rfl | refine Nts.ext ?_ (Ext.refl _).drew | refine Nts.ext ?_ ((Ext.refl _).alloc _)))).mono ?_
            rintro e w317 ⟨vz316, rfl, -, hZ316⟩
            have hE316 : Ext wy w317 := Ext.trans (by repeat (first | exact Ext.refl _ | apply Ext.alloc | apply Ext.drew)) hZ316
            replace hp := hp.ext hE316
            replace hmy := hmy.ext hE316
            replace hm32 := hm32.ext hE316
            replace hm31 := hm31.ext hE316
            replace hm1 := hm1.ext hE316
            replace hS := hS.ext hE316
            replace hx := hx.ext hE316
            replace hc31 := Ext.cell hE316 hc31
            have hF316 := Ext.trans (hF315) hE316
            rw [gu_w]
            have hc31_l := World.block_lt_of_cell? _ _ hc31
            go_wp2_with fail
            try clear hc31_l
            refine (guard_WriteO (l := S31) (run := [5]) 4 (hS.ext (by repeat (first | exact Ext.refl _ | apply Ext.alloc | apply Ext.drew))) (by repeat (first | exact Nts.litl _ _ [5] _ _ (by first | rfl | (simp; done)) rfl (by simp [maxLen]) rfl | refine Nts.ext ?_ (Ext.refl _).drew | refine Nts.ext ?_ ((Ext.refl _).alloc _)))).mono ?_
            rintro e w318 ⟨vhy, rfl, ohy, hZ317⟩
            have hE317 : Ext w317 w318 := Ext.trans (by repeat (first | exact Ext.refl _ | apply Ext.alloc | apply Ext.drew)) hZ317
            replace hp := hp.ext hE317
            replace hmy := hmy.ext hE317
            replace hm32 := hm32.ext hE317
            replace hm31 := hm31.ext hE317
            replace hm1 := hm1.ext hE317
            replace hS := hS.ext hE317
            replace hx := hx.ext hE317
            replace hc31 := Ext.cell hE317 hc31
            have hF317 := Ext.trans (hF316) hE317
            rw [gu_y] at ohy ⊢
            have hy : Its w318 vhy S31 := ohy.its
            obtain ⟨ahy, chy, rfl, -⟩ := hy.form
            clear ohy
            dsimp only at hy ⊢
            have hc31_l := World.block_lt_of_cell? _ _ hc31
            go_wp2_with fail
            try clear hc31_l
            refine (law31_aliveO _).mono ?_
            rintro e w319 ⟨rfl, hZ318⟩
            have hE318 : Ext w318 w319 := Ext.trans (by repeat (first | exact Ext.refl _ | apply Ext.alloc | apply Ext.drew)) hZ318
            replace hp := hp.ext hE318
            replace hmy := hmy.ext hE318
            replace hm32 := hm32.ext hE318
            replace hm31 := hm31.ext hE318
            replace hm1 := hm1.ext hE318
            replace hS := hS.ext hE318
            replace hx := hx.ext hE318
            replace hy := hy.ext hE318
            replace hc31 := Ext.cell hE318 hc31
            have hF318 := Ext.trans (hF317) hE318
            have hc31_l := World.block_lt_of_cell? _ _ hc31
            go_wp2_with fail
            try clear hc31_l
            refine (guard_Check (Nts.nil _)).mono ?_
            rintro e w320 ⟨rfl, rfl⟩
            rw [show runErr [] = 0 from by decide]
            have hc31_l := World.block_lt_of_cell? _ _ hc31
            go_wp2_with fail
            try clear hc31_l
            refine (guard_Check (hm32.ext (by repeat (first | exact Ext.refl _ | apply Ext.alloc | apply Ext.drew)))).mono ?_
            rintro e w320 ⟨rfl, rfl⟩
            rw [m4.out]
            have hc31_l := World.block_lt_of_cell? _ _ hc31
            go_wp2_with fail
            try clear hc31_l
            refine (ref28_Same_yes (l := S31) (hx.ext (by repeat (first | exact Ext.refl _ | apply Ext.alloc | apply Ext.drew))) (hS.ext (by repeat (first | exact Ext.refl _ | apply Ext.alloc | apply Ext.drew)))).mono ?_
            rintro e w320 ⟨rfl, hZ319⟩
            have hE319 : Ext w319 w320 := Ext.trans (by repeat (first | exact Ext.refl _ | apply Ext.alloc | apply Ext.drew)) hZ319
            replace hp := hp.ext hE319
            replace hmy := hmy.ext hE319
            replace hm32 := hm32.ext hE319
            replace hm31 := hm31.ext hE319
            replace hm1 := hm1.ext hE319
            replace hS := hS.ext hE319
            replace hx := hx.ext hE319
            replace hy := hy.ext hE319
            replace hc31 := Ext.cell hE319 hc31
            have hF319 := Ext.trans (hF318) hE319
            have hc31_l := World.block_lt_of_cell? _ _ hc31
            go_wp2_with fail
            try clear hc31_l
            refine (ref28_Same_yes (l := S31) (hy.ext (by repeat (first | exact Ext.refl _ | apply Ext.alloc | apply Ext.drew))) (hS.ext (by repeat (first | exact Ext.refl _ | apply Ext.alloc | apply Ext.drew)))).mono ?_
            rintro e w321 ⟨rfl, hZ320⟩
            have hE320 : Ext w320 w321 := Ext.trans (by repeat (first | exact Ext.refl _ | apply Ext.alloc | apply Ext.drew)) hZ320
            replace hp := hp.ext hE320
            replace hmy := hmy.ext hE320
            replace hm32 := hm32.ext hE320
            replace hm31 := hm31.ext hE320
            replace hm1 := hm1.ext hE320
            replace hS := hS.ext hE320
            replace hx := hx.ext hE320
            replace hy := hy.ext hE320
            replace hc31 := Ext.cell hE320 hc31
            have hF320 := Ext.trans (hF319) hE320
            go_wp2
            go_ret
            exact ⟨rfl, hF320⟩
set_option maxRecDepth 100000 in
theorem guardNames_contract (H : Type) (enc : TypeId × Value → H) (W : World) (base : Nat) (args : Array Value) (ds gs : List (DataW H)) (before : List MemPlace)
    (hval0 : ∀ (j : Nat) t v, Tryd.f4.params[j]? = some t → args[j]? = some v → Value.okWide Tryd.prog W .any base t v)
    (hW : DataW.Whole enc Tryd.prog Tryd.f4.params.toList Rows.guardNamesSpec.vars false W args.toList ds gs before) (hL : laidMetH Tryd.prog Rows.guardNamesRow.laid W) :
    Calls Tryd.prog 4 args W fun e W' => ∃ v, e = .returned v ∧ Rows.guardNamesSpec.post enc Tryd.prog Tryd.f4 false true false false W args v W' := by
  have hval : ∀ (j : Nat) t v, Tryd.f4.params[j]? = some t → args[j]? = some v → Value.okWide Tryd.prog W .any base t v := hval0
  have hW' := hW
  obtain ⟨p, q, hA0, hV, rfl, hfz, hnd⟩ := hW
  have hA : DataW.TrodAll enc Tryd.prog W 0 (fun _ => true) true Tryd.f4.params.toList args.toList ds p := hA0
  rw [Tryd.params4] at hA hval
  obtain ⟨hargs, rfl, rfl⟩ := trodAll_nil hA
  obtain rfl : args = #[] := by cases args; simp_all
  refine (guardNames_walk (perms_of_laid hL) ).mono fun e W' ⟨he, hb⟩ => ?_
  subst he
  exact ⟨_, rfl, post_law TrydlaidOut (tb := 4) rfl Tryd.underlying4 (by kernel_rfl) rfl (fun ds hd => match ds, hd with | [], _ => rfl) hW' hb⟩
theorem guardNames_met (os : Os) : laidMet Tryd.prog Rows.guardNamesRow.laid ((doorWorld os).forCall (fun _ _ => 0) ⟨#[], #[], []⟩).memory :=
  laidMet_of_run' 8 (by kernel_rfl) (by kernel_rfl)
theorem guardNames_reads (os : Os) {H : Type} (enc : TypeId × Value → H) : ∃ places, DataW.whole enc Tryd.prog ((doorWorld os).forCall (fun _ _ => 0) ⟨#[], #[], []⟩).memory Tryd.f4.params.toList Rows.guardNamesSpec.vars false (#[] : Array Value).toList 8 = some ([], [], places) :=
  ⟨[], by kernel_rfl⟩
set_option maxRecDepth 100000 in
theorem guardNames_lifted (os : Os) (started : os.Started) (H : Type) (enc : TypeId × Value → H) (F : Stop.Interp) :
    ReturnsInHanded {} Tryd.checked os 4 .any ((OpenSpec.ofChange Rows.guardNamesSpec).preRow enc Tryd.prog Tryd.f4 Rows.guardNamesRow.domain false Rows.guardNamesRow.laid) (((OpenSpec.ofChange Rows.guardNamesSpec).at F).post enc Tryd.prog Tryd.f4 false true false false) := by
  obtain ⟨places, hx⟩ := guardNames_reads os enc
  refine returnsInHanded_of_row (C := Tryd.checked) (s := OpenSpec.ofChange Rows.guardNamesSpec) Trydown started (by kernel_rfl) Tryd.func4
    (witness_row_at (enc := enc) (C := Tryd.checked) false (doorWorld os) #[] rfl (by kernel_rfl) (by kernel_rfl) (by kernel_rfl)
      (OpenSpec.preRow_of_cond 8 hx (by kernel_rfl) (fun k hk => by cases hk) (by kernel_rfl) (guardNames_met os))) ?_
  intro W base args ds gs before hval hW _ _ _ hL _ _
  exact guardNames_contract H enc W base args ds gs before hval hW hL
theorem guardNames_said : Rows.GuardNamesSaid :=
  OpenClaim.holds_of_cond 4 Tryd.f4 rfl rfl rfl rfl rfl rfl rfl ⟨rfl, rfl, rfl, rfl, rfl⟩ rfl rfl rfl rfl rfl (by kernel_rfl) Tryd.func4 (by kernel_rfl)
    (of_decide_eq_true (by kernel_rfl)) (by unfold Func.isWrapper; first | (rw [if_pos (by decide +kernel)]; kernel_rfl) | (rw [if_neg (by decide +kernel)]; exact ⟨rfl, rfl⟩))
    (fun os started H enc _ F => by rw [OpenClaim.pre_eq_preRow]; exact guardNames_lifted os started H enc F)
theorem guardNames_plain (f : FuncId) (fn : Func) (hf : Tryd.pinned.checked.prog.funcNamed "pawnshop/pawnshoplaw31.GuardNames" = some f) (hfn : Tryd.pinned.checked.prog.funcs[f]? = some fn) :
    false = Tryd.pinned.checked.prog.looks [] ∧ ∀ (j : Nat) t, fn.params[j]? = some t → Tryd.pinned.checked.prog.wantsStandIn t = false := by
  obtain rfl : f = 4 := Option.some.inj ((show Tryd.prog.funcNamed "pawnshop/pawnshoplaw31.GuardNames" = some 4 by kernel_rfl).symm.trans hf) |>.symm
  obtain rfl : fn = Tryd.f4 := (Option.some.inj (Tryd.func4.symm.trans hfn)).symm
  refine ⟨by kernel_rfl, fun j t ht => ?_⟩
  have hm : t ∈ Tryd.f4.params.toList := by simpa using Array.mem_of_getElem? ht
  have hall : (Tryd.f4.params.toList.all fun u => !Tryd.prog.wantsStandIn u) = true := by kernel_rfl
  exact (show Tryd.prog.wantsStandIn t = false by simpa using List.all_eq_true.1 hall t hm)
theorem guardNames_card : Rows.GuardNamesCardSaid :=
  Claim7.holds_tied_plain_at .later [] _ _ _ _ guardNames_said (fun _ h => by cases h) (by kernel_rfl) (fun _ h => by cases h) guardNames_row_tie rfl ⟨rfl, rfl⟩ (by kernel_rfl) rfl guardNames_plain (by kernel_rfl)

end Go.Proofs.YtkbocenpkdaogaaDoor
