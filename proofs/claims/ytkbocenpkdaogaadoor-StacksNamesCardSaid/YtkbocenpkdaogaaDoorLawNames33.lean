/- The statement StacksNames: the call returns true. Condition: the laid permissions. (printed by gen/names33.py) -/
import Derived.Test.YtkbocenpkdaogaaDoorNamR
import Derived.Test.YtkbocenpkdaogaaDoorStkK
import Derived.Test.YtkbocenpkdaogaaDoorLaw31A
import Derived.Test.YtkbocenpkdaogaaDoorReadI
import Derived.Deep.RegionHeld3
import Derived.Test.YtkbocenpkdaogaaDoorClose
import Derived.Test.YtkbocenpkdaogaaDoorDoor
import Derived.Deep.DeepCutAuto
namespace Go.Proofs.YtkbocenpkdaogaaDoor
set_option maxRecDepth 100000
open Go.ChangeShapes Go.WideShapes Go.ChangeAt Go.RowKit

set_option maxRecDepth 100000 in
set_option maxHeartbeats 25600000 in
theorem stacksNames_walk {w : World} (hp : Perms w) : Calls Tryd.prog 6 #[] w fun e w' => e = .returned (.bool true) ∧ Ext w w' := by
  obtain ⟨X, d0, X2, X1, dR, d1, d2, d3, d4⟩ := names33_data
  obtain ⟨T1, hT1⟩ : ∃ z, top33 = z := ⟨_, rfl⟩
  rw [hT1] at X1
  replace hT1 := Lib.hid hT1
  replace d0 := Lib.hid d0
  replace X1 := Lib.hid X1
  replace X2 := Lib.hid X2
  replace dR := Lib.hid dR
  replace d1 := Lib.hid d1
  replace d2 := Lib.hid d2
  replace d3 := Lib.hid d3
  replace d4 := Lib.hid d4
  go_enter Tryd.func6, Tryd.ntmps6
  go_wp2_with fail
  refine (stacks_New 1000000 2 1000000 _).mono ?_
  rintro e w1 ⟨v1, vs1, rfl, o1, hZ0⟩
  have hE0 : Ext w w1 := Ext.trans (by repeat (first | exact Ext.refl _ | apply Ext.alloc | apply Ext.drew)) hZ0
  replace hp := hp.ext hE0
  have hF0 := Ext.trans (Ext.refl w) hE0
  rw [d0.out] at o1 ⊢
  dsimp only at o1 ⊢
  have hx : Sts _ _ X := o1.sts
  obtain ⟨a1, c1, rfl, -⟩ := hx.form
  clear o1
  obtain ⟨xb, xo, xs, rfl, hxb, xc1, hrow1⟩ := hx.cell X1.out
  obtain ⟨q1, k1, rfl, -⟩ := hrow1.form
  clear hxb
  have xc1_l := World.block_lt_of_cell? _ _ xc1
  go_upto_region 2 with fail
  try clear xc1_l
  have bX := Box.new w1 56 #[.int .i64 1000000, .slice (some ⟨xb, xo, none⟩) X.length c1]
  have hsz : Hid ((World.alloc w1 (.cells #[.int .i64 1000000, .slice (some ⟨xb, xo, none⟩) X.length c1] 56)).heap.size = w1.heap.size + 1) := Hid.mk (by simp)
  have hx1 : Ext w1 (World.alloc w1 (.cells #[.int .i64 1000000, .slice (some ⟨xb, xo, none⟩) X.length c1] 56)) := (Ext.refl _).alloc _
  obtain ⟨w1b, hw1⟩ : ∃ x, World.alloc w1 (.cells #[.int .i64 1000000, .slice (some ⟨xb, xo, none⟩) X.length c1] 56) = x := ⟨_, rfl⟩
  rw [hw1] at hsz bX hx1 ⊢
  clear hw1
  replace hp := hp.ext hx1
  replace hx := hx.ext hx1
  replace hrow1 := hrow1.ext hx1
  replace xc1 := Ext.cell hx1 xc1
  have hF1 := Ext.trans (hF0) hx1
  go_cut [3] from 63 to 74 (fun s3 wx => Kts wx s3 bads33 ∧ Ext w1b wx)
  case first =>
    have hmk1 : ∀ W : World, (Instr.makeSlice 54 (.int .i64 1) (.int .i64 1)).run Tryd.prog W = .ok (.slice (some ⟨W.heap.size, 0, none⟩) 1 1) (W.alloc (.cells #[.slice none 0 0] 31)) := make_Stk 1 _ made1 (by decide)
    have hmk3 : ∀ W : World, (Instr.makeSlice 54 (.int .i64 3) (.int .i64 3)).run Tryd.prog W = .ok (.slice (some ⟨W.heap.size, 0, none⟩) 3 3) (W.alloc (.cells #[.slice none 0 0, .slice none 0 0, .slice none 0 0] 31)) := make_Stk 3 _ made3 (by decide)
    have hsc : Ext w1b (World.drew w1b) := (Ext.refl _).drew
    refine wp_region_inv (L := [Pr.eq (.agg #[.int .i64 0, .slice none 0 0]), PrS [[], [], []], PrK 0 [[], [], []], PrS [[]], PrK (-1) [[]], PrS [[]], PrK 1000001 [[]], Pr.eq (.agg #[.int .u8 0, .int .i64 0, .int .i64 0]), PrI [⟨0, 0, 0⟩], PrS [[], [⟨0, 0, 0⟩]], PrK 0 [[], [⟨0, 0, 0⟩]], PrT bads33, PrT bads33]) (by kernel_rfl) (by kernel_rfl) ?_ ?_
    · refine ⟨?_, ?_, ?_, ?_, ?_, ?_, ?_, ?_, ?_, ?_, ?_, ?_, ?_, trivial⟩
      · intro a w hE hd ho K hK
        clear hd ho
        replace hK := Lib.hid hK
        go_simp
        exact hK.out _ _ rfl (Ext.refl _)
      · intro a w hE hd ho K hK
        clear hd ho
        replace hK := Lib.hid hK
        go_simp
        exact hK.out _ _ (sts_made3 w) ((Ext.refl _).alloc _)
      · intro a w hE hd ho K hK
        have h1 : Sts w (a.eval (.tmp 64)) [[], [], []] := hd 1 (by kernel_rfl)
        obtain ⟨ax, cx, h2, -⟩ := h1.form
        rw [h2] at h1
        rw [eval_tmp] at h2
        clear hd ho
        replace hK := Lib.hid hK
        go_simp
        exact hK.out _ _ ⟨_, rfl, h1⟩ (Ext.refl _)
      · intro a w hE hd ho K hK
        clear hd ho
        replace hK := Lib.hid hK
        go_simp
        exact hK.out _ _ (sts_made1 w) ((Ext.refl _).alloc _)
      · intro a w hE hd ho K hK
        have h1 : Sts w (a.eval (.tmp 66)) [[]] := hd 3 (by kernel_rfl)
        obtain ⟨ax, cx, h2, -⟩ := h1.form
        rw [h2] at h1
        rw [eval_tmp] at h2
        clear hd ho
        replace hK := Lib.hid hK
        go_simp
        exact hK.out _ _ ⟨_, rfl, h1⟩ (Ext.refl _)
      · intro a w hE hd ho K hK
        clear hd ho
        replace hK := Lib.hid hK
        go_simp
        exact hK.out _ _ (sts_made1 w) ((Ext.refl _).alloc _)
      · intro a w hE hd ho K hK
        have h1 : Sts w (a.eval (.tmp 68)) [[]] := hd 5 (by kernel_rfl)
        obtain ⟨ax, cx, h2, -⟩ := h1.form
        rw [h2] at h1
        rw [eval_tmp] at h2
        clear hd ho
        replace hK := Lib.hid hK
        go_simp
        exact hK.out _ _ ⟨_, rfl, h1⟩ (Ext.refl _)
      · intro a w hE hd ho K hK
        clear hd ho
        replace hK := Lib.hid hK
        go_simp
        exact hK.out _ _ rfl (Ext.refl _)
      · intro a w hE hd ho K hK
        have h1 : a.eval (.tmp 70) = .agg #[.int .u8 0, .int .i64 0, .int .i64 0] := hd 7 (by kernel_rfl)
        rw [eval_tmp] at h1
        clear hd ho
        replace hK := Lib.hid hK
        go_simp
        exact hK.out _ _ (Its.lit w _ [⟨0, 0, 0⟩] _ _ rfl rfl (by simp [maxLen]) rfl) ((Ext.refl _).alloc _)
      · intro a w hE hd ho K hK
        have h1 : Its w (a.eval (.tmp 71)) [⟨0, 0, 0⟩] := hd 8 (by kernel_rfl)
        obtain ⟨ax, cx, h2, -⟩ := h1.form
        rw [h2] at h1
        rw [eval_tmp] at h2
        clear hd ho
        replace hK := Lib.hid hK
        go_simp
        exact hK.out _ _ (Sts.lit2 w _ _ _ _ _ _ (Its.nil _) h1 rfl) ((Ext.refl _).alloc _)
      · intro a w hE hd ho K hK
        have h1 : Sts w (a.eval (.tmp 72)) [[], [⟨0, 0, 0⟩]] := hd 9 (by kernel_rfl)
        obtain ⟨ax, cx, h2, -⟩ := h1.form
        rw [h2] at h1
        rw [eval_tmp] at h2
        clear hd ho
        replace hK := Lib.hid hK
        go_simp
        exact hK.out _ _ ⟨_, rfl, h1⟩ (Ext.refl _)
      · intro a w hE hd ho K hK
        have h1 : a.eval (.tmp 63) = .agg #[.int .i64 0, .slice none 0 0] := hd 0 (by kernel_rfl)
        rw [eval_tmp] at h1
        obtain ⟨s2, h2, g2⟩ : ∃ s, a.eval (.tmp 65) = .agg #[.int .i64 0, s] ∧ Sts w s [[], [], []] := hd 2 (by kernel_rfl)
        rw [eval_tmp] at h2
        obtain ⟨ax2, cx2, rfl, -⟩ := g2.form
        obtain ⟨s3, h3, g3⟩ : ∃ s, a.eval (.tmp 67) = .agg #[.int .i64 (-1), s] ∧ Sts w s [[]] := hd 4 (by kernel_rfl)
        rw [eval_tmp] at h3
        obtain ⟨ax3, cx3, rfl, -⟩ := g3.form
        obtain ⟨s4, h4, g4⟩ : ∃ s, a.eval (.tmp 69) = .agg #[.int .i64 1000001, s] ∧ Sts w s [[]] := hd 6 (by kernel_rfl)
        rw [eval_tmp] at h4
        obtain ⟨ax4, cx4, rfl, -⟩ := g4.form
        obtain ⟨s5, h5, g5⟩ : ∃ s, a.eval (.tmp 73) = .agg #[.int .i64 0, s] ∧ Sts w s [[], [⟨0, 0, 0⟩]] := hd 10 (by kernel_rfl)
        rw [eval_tmp] at h5
        obtain ⟨ax5, cx5, rfl, -⟩ := g5.form
        clear hd ho
        replace hK := Lib.hid hK
        go_simp
        exact hK.out _ _ (Kts.lit5 w _ _ _ _ _ _ _ _ _ _ _ _ _ _ _ _ _ (Sts.nil _) g2 g3 g4 g5 rfl) ((Ext.refl _).alloc _)
      · intro a w hE hd ho K hK
        have h1 : Kts w (a.eval (.tmp 74)) bads33 := hd 11 (by kernel_rfl)
        obtain ⟨ax, cx, h2, -⟩ := h1.form
        rw [h2] at h1
        rw [eval_tmp] at h2
        clear hd ho
        replace hK := Lib.hid hK
        go_simp
        exact hK.out _ _ h1 (Ext.refl _)
    · intro vals w hE hv
      have hk : Kts w (vals 12) bads33 := hv 12 (by decide)
      replace hk := Lib.hid hk
      replace hE := Lib.hid (Ext.trans hsc hE)
      clear hv hmk1 hmk3
      simp only [putAll]
      go_simp
      go_wp2_with fail
      go_meet
      exact ⟨hk.out, hE.out⟩
  case rest =>
    obtain ⟨hK, hEc⟩ := hcut
    obtain ⟨bd, hbd⟩ : ∃ z, bads33 = z := ⟨_, rfl⟩
    have hall := bads33_all
    have hbl : bads33.length = 5 := rfl
    rw [hbd] at hK hall hbl
    have hall := Lib.hid hall
    replace hbl := Lib.hid hbl
    clear hbd
    obtain ⟨ka, kc, rfl, hkl, hkm, -⟩ := hK.form
    replace hp := hp.ext hEc
    replace hx := hx.ext hEc
    replace hrow1 := hrow1.ext hEc
    replace bX := bX.ext hEc
    replace xc1 := Ext.cell hEc xc1
    have hF2 := Ext.trans (hF1) hEc
    have bX_0 : World.cell? wc ⟨w1.heap.size, 0, none⟩ = some (.int .i64 1000000) := bX.cell 0
    have bX_1 : World.cell? wc ⟨w1.heap.size, 1, none⟩ = some (.slice (some ⟨xb, xo, none⟩) X.length c1) := bX.cell 1
    have bX_l := bX.lt
    have xc1_l := World.block_lt_of_cell? _ _ xc1
    go_wp2
    try clear xc1_l
    clear bX_0 bX_1 bX_l
    unfold maxLen at hkm
    go_loopw [4] (fun iv wr => ∃ i : Nat, i ≤ bd.length ∧ iv = .int .i64 i ∧ Ext wc wr) (fun iv _ => bd.length - (intOf iv).toNat)
    case atStart => exact ⟨0, Nat.zero_le _, rfl, Ext.refl _⟩
    case round =>
      obtain ⟨i, hi, rfl, hQ⟩ := hrel
      by_cases hlt : i < bd.length
      · have hlt' : decide (i < bd.length) = true := decide_eq_true hlt
        obtain ⟨x, hx0⟩ : ∃ x, bd[i]? = some x := ⟨bd[i], by simp [hlt]⟩
        obtain ⟨e1, e2, e3, e4⟩ := hall.out i x hx0
        obtain ⟨b, off, sv, rfl, hbb, d0', d1', hcl⟩ := (hK.ext hQ).cell hx0
        obtain ⟨ca, ccp, rfl, -⟩ := hcl.form
        obtain ⟨xn, xl⟩ := x
        dsimp only at *
        replace e1 := Lib.hid e1; replace e2 := Lib.hid e2; replace e3 := Lib.hid e3; replace e4 := Lib.hid e4
        replace hp := hp.ext hQ
        clear hx0 hbb hx hrow1 xc1 bX hK
        have d0_l := World.block_lt_of_cell? _ _ d0'
        have d1_l := World.block_lt_of_cell? _ _ d1'
        go_wp2_with fail
        try clear d0_l
        try clear d1_l
        refine (stacks_Read 0 (hcl.ext (by repeat (first | exact Ext.refl _ | apply Ext.alloc | apply Ext.drew))) (Nts.nil _)).mono ?_
        rintro e w61 ⟨vhz, vshz, rfl, ohz, hZ60⟩
        have hE60 : Ext wr w61 := Ext.trans (by repeat (first | exact Ext.refl _ | apply Ext.alloc | apply Ext.drew)) hZ60
        replace hp := hp.ext hE60
        replace hcl := hcl.ext hE60
        replace d0' := Ext.cell hE60 d0'
        replace d1' := Ext.cell hE60 d1'
        have hF60 := Ext.trans (Ext.refl wr) hE60
        rw [e2.out] at ohz ⊢
        dsimp only [Stk.zero] at ohz ⊢
        obtain ⟨ahz, chz, rfl, -⟩ := ohz.sts.form
        clear ohz
        have d0_l := World.block_lt_of_cell? _ _ d0'
        have d1_l := World.block_lt_of_cell? _ _ d1'
        go_wp2_with fail
        try clear d0_l
        try clear d1_l
        refine (stacks_Write 0 (hcl.ext (by repeat (first | exact Ext.refl _ | apply Ext.alloc | apply Ext.drew))) (Nts.nil _)).mono ?_
        rintro e w62 ⟨vhz, vshz, rfl, ohz, hZ61⟩
        have hE61 : Ext w61 w62 := Ext.trans (by repeat (first | exact Ext.refl _ | apply Ext.alloc | apply Ext.drew)) hZ61
        replace hp := hp.ext hE61
        replace hcl := hcl.ext hE61
        replace d0' := Ext.cell hE61 d0'
        replace d1' := Ext.cell hE61 d1'
        have hF61 := Ext.trans (hF60) hE61
        rw [e3.out] at ohz ⊢
        dsimp only [Stk.zero] at ohz ⊢
        obtain ⟨ahz, chz, rfl, -⟩ := ohz.sts.form
        clear ohz
        have d0_l := World.block_lt_of_cell? _ _ d0'
        have d1_l := World.block_lt_of_cell? _ _ d1'
        go_wp2_with fail
        try clear d0_l
        try clear d1_l
        refine (stacks_Retag (hp.ext (by repeat (first | exact Ext.refl _ | apply Ext.alloc | apply Ext.drew))) ⟨by decide, by decide⟩ 0 ⟨0, 0, 0⟩ (hcl.ext (by repeat (first | exact Ext.refl _ | apply Ext.alloc | apply Ext.drew))) (Nts.nil _)).mono ?_
        rintro e w63 ⟨vhz, vshz, rfl, ohz, hZ62⟩
        have hE62 : Ext w62 w63 := Ext.trans (by repeat (first | exact Ext.refl _ | apply Ext.alloc | apply Ext.drew)) hZ62
        replace hp := hp.ext hE62
        replace hcl := hcl.ext hE62
        replace d0' := Ext.cell hE62 d0'
        replace d1' := Ext.cell hE62 d1'
        have hF62 := Ext.trans (hF61) hE62
        rw [e4.out] at ohz ⊢
        dsimp only [Stk.zero] at ohz ⊢
        obtain ⟨ahz, chz, rfl, -⟩ := ohz.sts.form
        clear ohz
        have d0_l := World.block_lt_of_cell? _ _ d0'
        have d1_l := World.block_lt_of_cell? _ _ d1'
        go_wp2_with fail
        try clear d0_l
        try clear d1_l
        refine (stacks_Check (hcl.ext (by repeat (first | exact Ext.refl _ | apply Ext.alloc | apply Ext.drew)))).mono ?_
        rintro e w64 ⟨rfl, hZ63⟩
        have hE63 : Ext w63 w64 := Ext.trans (by repeat (first | exact Ext.refl _ | apply Ext.alloc | apply Ext.drew)) hZ63
        replace hp := hp.ext hE63
        replace hcl := hcl.ext hE63
        replace d0' := Ext.cell hE63 d0'
        replace d1' := Ext.cell hE63 d1'
        have hF63 := Ext.trans (hF62) hE63
        rw [e1.out]
        have d0_l := World.block_lt_of_cell? _ _ d0'
        have d1_l := World.block_lt_of_cell? _ _ d1'
        go_wp2
        go_roundw
        case rel => exact ⟨i + 1, by omega, by go_num, hQ.trans hF63⟩
        case measure => simp [intOf]; omega
      · have hlt' : decide (i < bd.length) = false := decide_eq_false hlt
        clear hlt hK hi
        replace hp := hp.ext hQ
        replace hx := hx.ext hQ
        replace hrow1 := hrow1.ext hQ
        replace bX := bX.ext hQ
        replace xc1 := Ext.cell hQ xc1
        have hF100 := Ext.trans (hF2) hQ
        have bX_0 : World.cell? wr ⟨w1.heap.size, 0, none⟩ = some (.int .i64 1000000) := bX.cell 0
        have bX_1 : World.cell? wr ⟨w1.heap.size, 1, none⟩ = some (.slice (some ⟨xb, xo, none⟩) X.length c1) := bX.cell 1
        have bX_l := bX.lt
        have xc1_l := World.block_lt_of_cell? _ _ xc1
        go_wp2_with fail
        try clear xc1_l
        clear bX_0 bX_1 bX_l
        refine (stacks_New (-1) 1 0 _).mono ?_
        rintro e w102 ⟨vhz, vshz, rfl, ohz, hZ101⟩
        have hE101 : Ext wr w102 := Ext.trans (by repeat (first | exact Ext.refl _ | apply Ext.alloc | apply Ext.drew)) hZ101
        replace hp := hp.ext hE101
        replace hx := hx.ext hE101
        replace hrow1 := hrow1.ext hE101
        replace bX := bX.ext hE101
        replace xc1 := Ext.cell hE101 xc1
        have hF101 := Ext.trans (hF100) hE101
        rw [news33_a] at ohz ⊢
        dsimp only [Stk.zero] at ohz ⊢
        obtain ⟨ahz, chz, rfl, -⟩ := ohz.sts.form
        clear ohz
        have bX_0 : World.cell? w102 ⟨w1.heap.size, 0, none⟩ = some (.int .i64 1000000) := bX.cell 0
        have bX_1 : World.cell? w102 ⟨w1.heap.size, 1, none⟩ = some (.slice (some ⟨xb, xo, none⟩) X.length c1) := bX.cell 1
        have bX_l := bX.lt
        have xc1_l := World.block_lt_of_cell? _ _ xc1
        go_wp2_with fail
        try clear xc1_l
        clear bX_0 bX_1 bX_l
        refine (stacks_New (0) 1 1000001 _).mono ?_
        rintro e w103 ⟨vhz, vshz, rfl, ohz, hZ102⟩
        have hE102 : Ext w102 w103 := Ext.trans (by repeat (first | exact Ext.refl _ | apply Ext.alloc | apply Ext.drew)) hZ102
        replace hp := hp.ext hE102
        replace hx := hx.ext hE102
        replace hrow1 := hrow1.ext hE102
        replace bX := bX.ext hE102
        replace xc1 := Ext.cell hE102 xc1
        have hF102 := Ext.trans (hF101) hE102
        rw [news33_b] at ohz ⊢
        dsimp only [Stk.zero] at ohz ⊢
        obtain ⟨ahz, chz, rfl, -⟩ := ohz.sts.form
        clear ohz
        have bX_0 : World.cell? w103 ⟨w1.heap.size, 0, none⟩ = some (.int .i64 1000000) := bX.cell 0
        have bX_1 : World.cell? w103 ⟨w1.heap.size, 1, none⟩ = some (.slice (some ⟨xb, xo, none⟩) X.length c1) := bX.cell 1
        have bX_l := bX.lt
        have xc1_l := World.block_lt_of_cell? _ _ xc1
        go_wp2_with fail
        try clear xc1_l
        clear bX_0 bX_1 bX_l
        refine (stacks_New (0) 0 0 _).mono ?_
        rintro e w104 ⟨vhz, vshz, rfl, ohz, hZ103⟩
        have hE103 : Ext w103 w104 := Ext.trans (by repeat (first | exact Ext.refl _ | apply Ext.alloc | apply Ext.drew)) hZ103
        replace hp := hp.ext hE103
        replace hx := hx.ext hE103
        replace hrow1 := hrow1.ext hE103
        replace bX := bX.ext hE103
        replace xc1 := Ext.cell hE103 xc1
        have hF103 := Ext.trans (hF102) hE103
        rw [news33_c] at ohz ⊢
        dsimp only [Stk.zero] at ohz ⊢
        obtain ⟨ahz, chz, rfl, -⟩ := ohz.sts.form
        clear ohz
        have bX_0 : World.cell? w104 ⟨w1.heap.size, 0, none⟩ = some (.int .i64 1000000) := bX.cell 0
        have bX_1 : World.cell? w104 ⟨w1.heap.size, 1, none⟩ = some (.slice (some ⟨xb, xo, none⟩) X.length c1) := bX.cell 1
        have bX_l := bX.lt
        have xc1_l := World.block_lt_of_cell? _ _ xc1
        go_wp2_with fail
        try clear xc1_l
        clear bX_0 bX_1 bX_l
        refine (stacks_New 0 3 0 _).mono ?_
        rintro e w105 ⟨vhz, vshz, rfl, ohz, hZ104⟩
        have hE104 : Ext w104 w105 := Ext.trans (by repeat (first | exact Ext.refl _ | apply Ext.alloc | apply Ext.drew)) hZ104
        replace hp := hp.ext hE104
        replace hx := hx.ext hE104
        replace hrow1 := hrow1.ext hE104
        replace bX := bX.ext hE104
        replace xc1 := Ext.cell hE104 xc1
        have hF104 := Ext.trans (hF103) hE104
        rw [news33_d] at ohz ⊢
        dsimp only [Stk.zero] at ohz ⊢
        obtain ⟨ahz, chz, rfl, -⟩ := ohz.sts.form
        clear ohz
        have bX_0 : World.cell? w105 ⟨w1.heap.size, 0, none⟩ = some (.int .i64 1000000) := bX.cell 0
        have bX_1 : World.cell? w105 ⟨w1.heap.size, 1, none⟩ = some (.slice (some ⟨xb, xo, none⟩) X.length c1) := bX.cell 1
        have bX_l := bX.lt
        have xc1_l := World.block_lt_of_cell? _ _ xc1
        go_wp2
        try clear xc1_l
        clear bX_0 bX_1 bX_l
        have bz := Box.new w105 56 #[.int .i64 0, .slice ahz 0 chz]
        have hsz : Hid ((World.alloc w105 (.cells #[.int .i64 0, .slice ahz 0 chz] 56)).heap.size = w105.heap.size + 1) := Hid.mk (by simp)
        have hx105 : Ext w105 (World.alloc w105 (.cells #[.int .i64 0, .slice ahz 0 chz] 56)) := (Ext.refl _).alloc _
        obtain ⟨w105b, hw105⟩ : ∃ x, World.alloc w105 (.cells #[.int .i64 0, .slice ahz 0 chz] 56) = x := ⟨_, rfl⟩
        rw [hw105] at hsz bz hx105 ⊢
        clear hw105
        replace hp := hp.ext hx105
        replace hx := hx.ext hx105
        replace hrow1 := hrow1.ext hx105
        replace bX := bX.ext hx105
        replace xc1 := Ext.cell hx105 xc1
        have hF105 := Ext.trans (hF104) hx105
        have hszp := hsz
        have bR := Box.new w105b 64 #[.int .i64 (-1), .int .i64 1, .int .i64 0, .int .i64 0, .int .i64 0, .int .i64 3, .int .i64 1, .int .i64 2, .int .i64 2, .int .i64 1, .int .i64 0, .int .i64 (-1), .int .i64 9223372036854775807, .int .i64 1, .int .i64 1, .int .i64 9223372036854775807]
        have hsz : Hid ((World.alloc w105b (.cells #[.int .i64 (-1), .int .i64 1, .int .i64 0, .int .i64 0, .int .i64 0, .int .i64 3, .int .i64 1, .int .i64 2, .int .i64 2, .int .i64 1, .int .i64 0, .int .i64 (-1), .int .i64 9223372036854775807, .int .i64 1, .int .i64 1, .int .i64 9223372036854775807] 64)).heap.size = w105b.heap.size + 1) := Hid.mk (by simp)
        have hx106 : Ext w105b (World.alloc w105b (.cells #[.int .i64 (-1), .int .i64 1, .int .i64 0, .int .i64 0, .int .i64 0, .int .i64 3, .int .i64 1, .int .i64 2, .int .i64 2, .int .i64 1, .int .i64 0, .int .i64 (-1), .int .i64 9223372036854775807, .int .i64 1, .int .i64 1, .int .i64 9223372036854775807] 64)) := (Ext.refl _).alloc _
        obtain ⟨w106b, hw106⟩ : ∃ x, World.alloc w105b (.cells #[.int .i64 (-1), .int .i64 1, .int .i64 0, .int .i64 0, .int .i64 0, .int .i64 3, .int .i64 1, .int .i64 2, .int .i64 2, .int .i64 1, .int .i64 0, .int .i64 (-1), .int .i64 9223372036854775807, .int .i64 1, .int .i64 1, .int .i64 9223372036854775807] 64) = x := ⟨_, rfl⟩
        rw [hw106] at hsz bR hx106 ⊢
        clear hw106
        replace hp := hp.ext hx106
        replace hx := hx.ext hx106
        replace hrow1 := hrow1.ext hx106
        replace bX := bX.ext hx106
        replace bz := bz.ext hx106
        replace xc1 := Ext.cell hx106 xc1
        have hF106 := Ext.trans (hF105) hx106
        rw [hszp.out] at bR hsz
        clear hszp
        go_loopw [22, 24] (fun nv iv wr => ∃ i : Nat, i ≤ 8 ∧ iv = .int .i64 i ∧ nv = .int .i64 i ∧ Ext w106b wr) (fun _ iv _ => 8 - (intOf iv).toNat)
        case atStart => exact ⟨0, by omega, rfl, rfl, Ext.refl _⟩
        case round =>
          obtain ⟨i, hi, rfl, rfl, hQ2⟩ := hrel
          replace hp := hp.ext hQ2
          replace hx := hx.ext hQ2
          replace bX := bX.ext hQ2
          have bS := bR.ext hQ2
          have bX_0 : World.cell? wr ⟨w1.heap.size, 0, none⟩ = some (.int .i64 1000000) := bX.cell 0
          have bX_1 : World.cell? wr ⟨w1.heap.size, 1, none⟩ = some (.slice (some ⟨xb, xo, none⟩) X.length c1) := bX.cell 1
          by_cases hlt : i < 8
          · have hlt' : decide ((i : Int) < 8) = true := decide_eq_true (by omega)
            obtain ⟨a, n, r0, r1, hpn⟩ : ∃ a n : Int, World.cell? wr ⟨w105.heap.size + 1, i * 2, none⟩ = some (.int .i64 a) ∧ World.cell? wr ⟨w105.heap.size + 1, i * 2 + 1, none⟩ = some (.int .i64 n) ∧ (a, n) ∈ rng33 := by
              rcases (by omega : i = 0 ∨ i = 1 ∨ i = 2 ∨ i = 3 ∨ i = 4 ∨ i = 5 ∨ i = 6 ∨ i = 7) with rfl | rfl | rfl | rfl | rfl | rfl | rfl | rfl
              · exact ⟨_, _, bS.cell 0, bS.cell 1, by decide⟩
              · exact ⟨_, _, bS.cell 2, bS.cell 3, by decide⟩
              · exact ⟨_, _, bS.cell 4, bS.cell 5, by decide⟩
              · exact ⟨_, _, bS.cell 6, bS.cell 7, by decide⟩
              · exact ⟨_, _, bS.cell 8, bS.cell 9, by decide⟩
              · exact ⟨_, _, bS.cell 10, bS.cell 11, by decide⟩
              · exact ⟨_, _, bS.cell 12, bS.cell 13, by decide⟩
              · exact ⟨_, _, bS.cell 14, bS.cell 15, by decide⟩
            obtain ⟨eA, eB, eC⟩ := dR.out _ hpn
            dsimp only at eA eB eC
            replace eA := Lib.hid eA; replace eB := Lib.hid eB; replace eC := Lib.hid eC
            have hi0 : (0 : Int) ≤ (i : Int) := by omega
            have hi1 : (i : Int) < 8 := by omega
            clear hpn bS
            go_upto_region 20 with fail
            go_cut [25, 26, 27] from 152 to 218 (fun _ s1 s2 wx => s1 = .int .u8 0 ∧ s2 = .int .i64 6 ∧ Ext wr wx)
            case first =>
              have hSk : ∀ w' w'' : World, (w'.cell? ⟨w1.heap.size, 0, none⟩ = some (.int .i64 1000000) ∧ w'.cell? ⟨w1.heap.size, 1, none⟩ = some (.slice (some ⟨xb, xo, none⟩) X.length c1) ∧ w'.cell? ⟨w105.heap.size + 1, i * 2, none⟩ = some (.int .i64 a) ∧ w'.cell? ⟨w105.heap.size + 1, i * 2 + 1, none⟩ = some (.int .i64 n) ∧ Ext wr w') → Ext w' w'' → (w''.cell? ⟨w1.heap.size, 0, none⟩ = some (.int .i64 1000000) ∧ w''.cell? ⟨w1.heap.size, 1, none⟩ = some (.slice (some ⟨xb, xo, none⟩) X.length c1) ∧ w''.cell? ⟨w105.heap.size + 1, i * 2, none⟩ = some (.int .i64 a) ∧ w''.cell? ⟨w105.heap.size + 1, i * 2 + 1, none⟩ = some (.int .i64 n) ∧ Ext wr w'') := by
                rintro w' w'' ⟨k0, k1, k2, k3, kE⟩ h
                exact ⟨h.cell k0, h.cell k1, h.cell k2, h.cell k3, Ext.trans kE h⟩
              go_region_held3 (fun w' => (w'.cell? ⟨w1.heap.size, 0, none⟩ = some (.int .i64 1000000) ∧ w'.cell? ⟨w1.heap.size, 1, none⟩ = some (.slice (some ⟨xb, xo, none⟩) X.length c1) ∧ w'.cell? ⟨w105.heap.size + 1, i * 2, none⟩ = some (.int .i64 a) ∧ w'.cell? ⟨w105.heap.size + 1, i * 2 + 1, none⟩ = some (.int .i64 n) ∧ Ext wr w')) (first | assumption | exact ⟨Ext.cell hB0 bX_0, Ext.cell hB0 bX_1, Ext.cell hB0 r0, Ext.cell hB0 r1, hB0⟩ | exact ⟨Ext.cell (Ext.drew hB0) bX_0, Ext.cell (Ext.drew hB0) bX_1, Ext.cell (Ext.drew hB0) r0, Ext.cell (Ext.drew hB0) r1, (Ext.drew hB0)⟩ | exact ⟨Ext.cell (Ext.alloc hB0 _) bX_0, Ext.cell (Ext.alloc hB0 _) bX_1, Ext.cell (Ext.alloc hB0 _) r0, Ext.cell (Ext.alloc hB0 _) r1, (Ext.alloc hB0 _)⟩ | exact ⟨Ext.cell (Ext.drew (Ext.alloc hB0 _)) bX_0, Ext.cell (Ext.drew (Ext.alloc hB0 _)) bX_1, Ext.cell (Ext.drew (Ext.alloc hB0 _)) r0, Ext.cell (Ext.drew (Ext.alloc hB0 _)) r1, (Ext.drew (Ext.alloc hB0 _))⟩ | exact ⟨Ext.cell (Ext.setCell (Ext.setCell hB0 (Nat.le_refl _) _) (Nat.le_refl _) _) bX_0, Ext.cell (Ext.setCell (Ext.setCell hB0 (Nat.le_refl _) _) (Nat.le_refl _) _) bX_1, Ext.cell (Ext.setCell (Ext.setCell hB0 (Nat.le_refl _) _) (Nat.le_refl _) _) r0, Ext.cell (Ext.setCell (Ext.setCell hB0 (Nat.le_refl _) _) (Nat.le_refl _) _) r1, (Ext.setCell (Ext.setCell hB0 (Nat.le_refl _) _) (Nat.le_refl _) _)⟩ | exact ⟨Ext.cell (Ext.drew (Ext.setCell (Ext.setCell hB0 (Nat.le_refl _) _) (Nat.le_refl _) _)) bX_0, Ext.cell (Ext.drew (Ext.setCell (Ext.setCell hB0 (Nat.le_refl _) _) (Nat.le_refl _) _)) bX_1, Ext.cell (Ext.drew (Ext.setCell (Ext.setCell hB0 (Nat.le_refl _) _) (Nat.le_refl _) _)) r0, Ext.cell (Ext.drew (Ext.setCell (Ext.setCell hB0 (Nat.le_refl _) _) (Nat.le_refl _) _)) r1, (Ext.drew (Ext.setCell (Ext.setCell hB0 (Nat.le_refl _) _) (Nat.le_refl _) _))⟩ | exact ⟨bX_0, bX_1, r0, r1, (Ext.refl _).drew⟩ | (refine hSk _ _ (by assumption) ?_; first | assumption | exact (Ext.refl _).alloc _ | exact ((Ext.refl _).alloc _).drew)) (first | (go_at_call 31; refine (stacks_Read (a := a) (n := n) 1000000 (hx.ext ?_) (Nts.nil _)).mono ?_; (exact And.right (And.right (And.right (And.right (by assumption))))); rintro e wd ⟨vz, vsz, rfl, oz, hD0⟩; rw [eA.out] at oz ⊢; dsimp only [Stk.zero] at oz ⊢; obtain ⟨az, cz, rfl, -⟩ := oz.sts.form; clear oz; (have hB0 : Ext wr wd := (by refine Ext.trans ?_ hD0; exact And.right (And.right (And.right (And.right (by assumption)))))); (first | (have hz : Box wd wr.heap.size 56 #[.int .i64 0, .slice none 0 0] := box_drewK hD0; have zc0 : World.cell? wd ⟨wr.heap.size, 0, none⟩ = some (.int .i64 0) := hz.cell 0; have zc1 : World.cell? wd ⟨wr.heap.size, 1, none⟩ = some (.slice none 0 0) := hz.cell 1; have zf0 := hz.frozen 0; have zf1 := hz.frozen 1; have zl := hz.lt) | skip)))
              all_goals
                go_wp2_with fail
                go_meet
                exact ⟨rfl, rfl, (by first | assumption | (first | exact hB0 | exact (Ext.drew hB0) | exact (Ext.alloc hB0 _) | exact (Ext.drew (Ext.alloc hB0 _)) | exact (Ext.setCell (Ext.setCell hB0 (Nat.le_refl _) _) (Nat.le_refl _) _) | exact (Ext.drew (Ext.setCell (Ext.setCell hB0 (Nat.le_refl _) _) (Nat.le_refl _) _))))⟩
            case rest =>
              obtain ⟨rfl, rfl, hG0⟩ := hcut
              obtain ⟨wq0, hwq⟩ : ∃ z, wc = z := ⟨_, rfl⟩
              rw [hwq] at hG0 ⊢
              clear hwq
              replace hp := hp.ext hG0
              replace hx := hx.ext hG0
              replace bX := bX.ext hG0
              replace bX_0 := Ext.cell hG0 bX_0
              replace bX_1 := Ext.cell hG0 bX_1
              replace r0 := Ext.cell hG0 r0
              replace r1 := Ext.cell hG0 r1
              have hH0 := Ext.trans (Ext.refl _) hG0
              go_upto_region 21 with fail
              go_cut [28, 29, 30] from 152 to 218 (fun _ s1 s2 wx => s1 = .int .u8 0 ∧ s2 = .int .i64 6 ∧ Ext wq0 wx)
              case first =>
                have hSk : ∀ w' w'' : World, (w'.cell? ⟨w1.heap.size, 0, none⟩ = some (.int .i64 1000000) ∧ w'.cell? ⟨w1.heap.size, 1, none⟩ = some (.slice (some ⟨xb, xo, none⟩) X.length c1) ∧ w'.cell? ⟨w105.heap.size + 1, i * 2, none⟩ = some (.int .i64 a) ∧ w'.cell? ⟨w105.heap.size + 1, i * 2 + 1, none⟩ = some (.int .i64 n) ∧ Ext wq0 w') → Ext w' w'' → (w''.cell? ⟨w1.heap.size, 0, none⟩ = some (.int .i64 1000000) ∧ w''.cell? ⟨w1.heap.size, 1, none⟩ = some (.slice (some ⟨xb, xo, none⟩) X.length c1) ∧ w''.cell? ⟨w105.heap.size + 1, i * 2, none⟩ = some (.int .i64 a) ∧ w''.cell? ⟨w105.heap.size + 1, i * 2 + 1, none⟩ = some (.int .i64 n) ∧ Ext wq0 w'') := by
                  rintro w' w'' ⟨k0, k1, k2, k3, kE⟩ h
                  exact ⟨h.cell k0, h.cell k1, h.cell k2, h.cell k3, Ext.trans kE h⟩
                go_region_held3 (fun w' => (w'.cell? ⟨w1.heap.size, 0, none⟩ = some (.int .i64 1000000) ∧ w'.cell? ⟨w1.heap.size, 1, none⟩ = some (.slice (some ⟨xb, xo, none⟩) X.length c1) ∧ w'.cell? ⟨w105.heap.size + 1, i * 2, none⟩ = some (.int .i64 a) ∧ w'.cell? ⟨w105.heap.size + 1, i * 2 + 1, none⟩ = some (.int .i64 n) ∧ Ext wq0 w')) (first | assumption | exact ⟨Ext.cell hB1 bX_0, Ext.cell hB1 bX_1, Ext.cell hB1 r0, Ext.cell hB1 r1, hB1⟩ | exact ⟨Ext.cell (Ext.drew hB1) bX_0, Ext.cell (Ext.drew hB1) bX_1, Ext.cell (Ext.drew hB1) r0, Ext.cell (Ext.drew hB1) r1, (Ext.drew hB1)⟩ | exact ⟨Ext.cell (Ext.alloc hB1 _) bX_0, Ext.cell (Ext.alloc hB1 _) bX_1, Ext.cell (Ext.alloc hB1 _) r0, Ext.cell (Ext.alloc hB1 _) r1, (Ext.alloc hB1 _)⟩ | exact ⟨Ext.cell (Ext.drew (Ext.alloc hB1 _)) bX_0, Ext.cell (Ext.drew (Ext.alloc hB1 _)) bX_1, Ext.cell (Ext.drew (Ext.alloc hB1 _)) r0, Ext.cell (Ext.drew (Ext.alloc hB1 _)) r1, (Ext.drew (Ext.alloc hB1 _))⟩ | exact ⟨Ext.cell (Ext.setCell (Ext.setCell hB1 (Nat.le_refl _) _) (Nat.le_refl _) _) bX_0, Ext.cell (Ext.setCell (Ext.setCell hB1 (Nat.le_refl _) _) (Nat.le_refl _) _) bX_1, Ext.cell (Ext.setCell (Ext.setCell hB1 (Nat.le_refl _) _) (Nat.le_refl _) _) r0, Ext.cell (Ext.setCell (Ext.setCell hB1 (Nat.le_refl _) _) (Nat.le_refl _) _) r1, (Ext.setCell (Ext.setCell hB1 (Nat.le_refl _) _) (Nat.le_refl _) _)⟩ | exact ⟨Ext.cell (Ext.drew (Ext.setCell (Ext.setCell hB1 (Nat.le_refl _) _) (Nat.le_refl _) _)) bX_0, Ext.cell (Ext.drew (Ext.setCell (Ext.setCell hB1 (Nat.le_refl _) _) (Nat.le_refl _) _)) bX_1, Ext.cell (Ext.drew (Ext.setCell (Ext.setCell hB1 (Nat.le_refl _) _) (Nat.le_refl _) _)) r0, Ext.cell (Ext.drew (Ext.setCell (Ext.setCell hB1 (Nat.le_refl _) _) (Nat.le_refl _) _)) r1, (Ext.drew (Ext.setCell (Ext.setCell hB1 (Nat.le_refl _) _) (Nat.le_refl _) _))⟩ | exact ⟨bX_0, bX_1, r0, r1, (Ext.refl _).drew⟩ | (refine hSk _ _ (by assumption) ?_; first | assumption | exact (Ext.refl _).alloc _ | exact ((Ext.refl _).alloc _).drew)) (first | (go_at_call 32; refine (stacks_Write (a := a) (n := n) 1000000 (hx.ext ?_) (Nts.nil _)).mono ?_; (exact And.right (And.right (And.right (And.right (by assumption))))); rintro e wd ⟨vz, vsz, rfl, oz, hD1⟩; rw [eB.out] at oz ⊢; dsimp only [Stk.zero] at oz ⊢; obtain ⟨az, cz, rfl, -⟩ := oz.sts.form; clear oz; (have hB1 : Ext wq0 wd := (by refine Ext.trans ?_ hD1; exact And.right (And.right (And.right (And.right (by assumption)))))); (first | (have hz : Box wd wq0.heap.size 56 #[.int .i64 0, .slice none 0 0] := box_drewK hD1; have zc0 : World.cell? wd ⟨wq0.heap.size, 0, none⟩ = some (.int .i64 0) := hz.cell 0; have zc1 : World.cell? wd ⟨wq0.heap.size, 1, none⟩ = some (.slice none 0 0) := hz.cell 1; have zf0 := hz.frozen 0; have zf1 := hz.frozen 1; have zl := hz.lt) | skip)))
                all_goals
                  go_wp2_with fail
                  go_meet
                  exact ⟨rfl, rfl, (by first | assumption | (first | exact hB1 | exact (Ext.drew hB1) | exact (Ext.alloc hB1 _) | exact (Ext.drew (Ext.alloc hB1 _)) | exact (Ext.setCell (Ext.setCell hB1 (Nat.le_refl _) _) (Nat.le_refl _) _) | exact (Ext.drew (Ext.setCell (Ext.setCell hB1 (Nat.le_refl _) _) (Nat.le_refl _) _))))⟩
              case rest =>
                obtain ⟨rfl, rfl, hG1⟩ := hcut
                obtain ⟨wq1, hwq⟩ : ∃ z, wc = z := ⟨_, rfl⟩
                rw [hwq] at hG1 ⊢
                clear hwq
                replace hp := hp.ext hG1
                replace hx := hx.ext hG1
                replace bX := bX.ext hG1
                replace bX_0 := Ext.cell hG1 bX_0
                replace bX_1 := Ext.cell hG1 bX_1
                replace r0 := Ext.cell hG1 r0
                replace r1 := Ext.cell hG1 r1
                have hH1 := Ext.trans (hH0) hG1
                go_upto_region 22 with fail
                go_cut [31, 32, 33] from 152 to 218 (fun _ s1 s2 wx => s1 = .int .u8 0 ∧ s2 = .int .i64 6 ∧ Ext wq1 wx)
                case first =>
                  have hSk : ∀ w' w'' : World, (w'.cell? ⟨w1.heap.size, 0, none⟩ = some (.int .i64 1000000) ∧ w'.cell? ⟨w1.heap.size, 1, none⟩ = some (.slice (some ⟨xb, xo, none⟩) X.length c1) ∧ w'.cell? ⟨w105.heap.size + 1, i * 2, none⟩ = some (.int .i64 a) ∧ w'.cell? ⟨w105.heap.size + 1, i * 2 + 1, none⟩ = some (.int .i64 n) ∧ Ext wq1 w') → Ext w' w'' → (w''.cell? ⟨w1.heap.size, 0, none⟩ = some (.int .i64 1000000) ∧ w''.cell? ⟨w1.heap.size, 1, none⟩ = some (.slice (some ⟨xb, xo, none⟩) X.length c1) ∧ w''.cell? ⟨w105.heap.size + 1, i * 2, none⟩ = some (.int .i64 a) ∧ w''.cell? ⟨w105.heap.size + 1, i * 2 + 1, none⟩ = some (.int .i64 n) ∧ Ext wq1 w'') := by
                    rintro w' w'' ⟨k0, k1, k2, k3, kE⟩ h
                    exact ⟨h.cell k0, h.cell k1, h.cell k2, h.cell k3, Ext.trans kE h⟩
                  go_region_held3 (fun w' => (w'.cell? ⟨w1.heap.size, 0, none⟩ = some (.int .i64 1000000) ∧ w'.cell? ⟨w1.heap.size, 1, none⟩ = some (.slice (some ⟨xb, xo, none⟩) X.length c1) ∧ w'.cell? ⟨w105.heap.size + 1, i * 2, none⟩ = some (.int .i64 a) ∧ w'.cell? ⟨w105.heap.size + 1, i * 2 + 1, none⟩ = some (.int .i64 n) ∧ Ext wq1 w')) (first | assumption | exact ⟨Ext.cell hB2 bX_0, Ext.cell hB2 bX_1, Ext.cell hB2 r0, Ext.cell hB2 r1, hB2⟩ | exact ⟨Ext.cell (Ext.drew hB2) bX_0, Ext.cell (Ext.drew hB2) bX_1, Ext.cell (Ext.drew hB2) r0, Ext.cell (Ext.drew hB2) r1, (Ext.drew hB2)⟩ | exact ⟨Ext.cell (Ext.alloc hB2 _) bX_0, Ext.cell (Ext.alloc hB2 _) bX_1, Ext.cell (Ext.alloc hB2 _) r0, Ext.cell (Ext.alloc hB2 _) r1, (Ext.alloc hB2 _)⟩ | exact ⟨Ext.cell (Ext.drew (Ext.alloc hB2 _)) bX_0, Ext.cell (Ext.drew (Ext.alloc hB2 _)) bX_1, Ext.cell (Ext.drew (Ext.alloc hB2 _)) r0, Ext.cell (Ext.drew (Ext.alloc hB2 _)) r1, (Ext.drew (Ext.alloc hB2 _))⟩ | exact ⟨Ext.cell (Ext.setCell (Ext.setCell hB2 (Nat.le_refl _) _) (Nat.le_refl _) _) bX_0, Ext.cell (Ext.setCell (Ext.setCell hB2 (Nat.le_refl _) _) (Nat.le_refl _) _) bX_1, Ext.cell (Ext.setCell (Ext.setCell hB2 (Nat.le_refl _) _) (Nat.le_refl _) _) r0, Ext.cell (Ext.setCell (Ext.setCell hB2 (Nat.le_refl _) _) (Nat.le_refl _) _) r1, (Ext.setCell (Ext.setCell hB2 (Nat.le_refl _) _) (Nat.le_refl _) _)⟩ | exact ⟨Ext.cell (Ext.drew (Ext.setCell (Ext.setCell hB2 (Nat.le_refl _) _) (Nat.le_refl _) _)) bX_0, Ext.cell (Ext.drew (Ext.setCell (Ext.setCell hB2 (Nat.le_refl _) _) (Nat.le_refl _) _)) bX_1, Ext.cell (Ext.drew (Ext.setCell (Ext.setCell hB2 (Nat.le_refl _) _) (Nat.le_refl _) _)) r0, Ext.cell (Ext.drew (Ext.setCell (Ext.setCell hB2 (Nat.le_refl _) _) (Nat.le_refl _) _)) r1, (Ext.drew (Ext.setCell (Ext.setCell hB2 (Nat.le_refl _) _) (Nat.le_refl _) _))⟩ | exact ⟨bX_0, bX_1, r0, r1, (Ext.refl _).drew⟩ | (refine hSk _ _ (by assumption) ?_; first | assumption | exact (Ext.refl _).alloc _ | exact ((Ext.refl _).alloc _).drew)) (first | (go_at_call 33; refine (stacks_Retag (a := a) (n := n) (hp.ext ?_) ⟨by decide, by decide⟩ 1000000 ⟨0, 0, 0⟩ (hx.ext ?_) (Nts.nil _)).mono ?_; (exact And.right (And.right (And.right (And.right (by assumption))))); (exact And.right (And.right (And.right (And.right (by assumption))))); rintro e wd ⟨vz, vsz, rfl, oz, hD2⟩; rw [eC.out] at oz ⊢; dsimp only [Stk.zero] at oz ⊢; obtain ⟨az, cz, rfl, -⟩ := oz.sts.form; clear oz; (have hB2 : Ext wq1 wd := (by refine Ext.trans ?_ hD2; exact And.right (And.right (And.right (And.right (by assumption)))))); (first | (have hz : Box wd wq1.heap.size 56 #[.int .i64 0, .slice none 0 0] := box_drewK hD2; have zc0 : World.cell? wd ⟨wq1.heap.size, 0, none⟩ = some (.int .i64 0) := hz.cell 0; have zc1 : World.cell? wd ⟨wq1.heap.size, 1, none⟩ = some (.slice none 0 0) := hz.cell 1; have zf0 := hz.frozen 0; have zf1 := hz.frozen 1; have zl := hz.lt) | skip)))
                  all_goals
                    go_wp2_with fail
                    go_meet
                    exact ⟨rfl, rfl, (by first | assumption | (first | exact hB2 | exact (Ext.drew hB2) | exact (Ext.alloc hB2 _) | exact (Ext.drew (Ext.alloc hB2 _)) | exact (Ext.setCell (Ext.setCell hB2 (Nat.le_refl _) _) (Nat.le_refl _) _) | exact (Ext.drew (Ext.setCell (Ext.setCell hB2 (Nat.le_refl _) _) (Nat.le_refl _) _))))⟩
                case rest =>
                  obtain ⟨rfl, rfl, hG2⟩ := hcut
                  obtain ⟨wq2, hwq⟩ : ∃ z, wc = z := ⟨_, rfl⟩
                  rw [hwq] at hG2 ⊢
                  clear hwq
                  replace hp := hp.ext hG2
                  replace hx := hx.ext hG2
                  replace bX := bX.ext hG2
                  replace bX_0 := Ext.cell hG2 bX_0
                  replace bX_1 := Ext.cell hG2 bX_1
                  replace r0 := Ext.cell hG2 r0
                  replace r1 := Ext.cell hG2 r1
                  have hH2 := Ext.trans (hH1) hG2
                  go_wp2
                  go_roundw
                  case rel => exact ⟨i + 1, by omega, by go_num, by go_num, hQ2.trans hH2⟩
                  case measure => simp [intOf]; omega
          · have hie : i = 8 := by omega
            subst hie
            clear hlt hi
            replace hrow1 := hrow1.ext hQ2
            replace xc1 := Ext.cell hQ2 xc1
            have hF200 := Ext.trans (hF106) hQ2
            have bX_0 : World.cell? wr ⟨w1.heap.size, 0, none⟩ = some (.int .i64 1000000) := bX.cell 0
            have bX_1 : World.cell? wr ⟨w1.heap.size, 1, none⟩ = some (.slice (some ⟨xb, xo, none⟩) X.length c1) := bX.cell 1
            have bX_l := bX.lt
            have xc1_l := World.block_lt_of_cell? _ _ xc1
            go_wp2_with fail
            try clear xc1_l
            clear bX_0 bX_1 bX_l
            refine (stacks_Read (run := [0]) 0 (Sts.nil _) (by (repeat (first | exact Nts.nil _ | exact Nts.litl _ _ _ _ _ (by first | (simp; done) | exact hsz.out | (have := hsz.out; simp; omega)) rfl (by simp [maxLen]) rfl | refine Nts.ext ?_ (Ext.refl _).drew | refine Nts.ext ?_ ((Ext.refl _).alloc _) | refine Nts.ext ?_ (by assumption))))).mono ?_
            rintro e w202 ⟨vhz, vshz, rfl, ohz, hZ201⟩
            have hE201 : Ext wr w202 := Ext.trans (by repeat (first | exact Ext.refl _ | apply Ext.alloc | apply Ext.drew)) hZ201
            replace hrow1 := hrow1.ext hE201
            replace hp := hp.ext hE201
            replace hx := hx.ext hE201
            replace bX := bX.ext hE201
            replace xc1 := Ext.cell hE201 xc1
            have hF201 := Ext.trans (hF200) hE201
            rw [zero33_read] at ohz ⊢
            dsimp only [Stk.zero] at ohz ⊢
            obtain ⟨ahz, chz, rfl, -⟩ := ohz.sts.form
            clear ohz
            have bX_0 : World.cell? w202 ⟨w1.heap.size, 0, none⟩ = some (.int .i64 1000000) := bX.cell 0
            have bX_1 : World.cell? w202 ⟨w1.heap.size, 1, none⟩ = some (.slice (some ⟨xb, xo, none⟩) X.length c1) := bX.cell 1
            have bX_l := bX.lt
            have xc1_l := World.block_lt_of_cell? _ _ xc1
            go_wp2_with fail
            try clear xc1_l
            clear bX_0 bX_1 bX_l
            refine (stacks_Retag (hp.ext (by repeat (first | exact Ext.refl _ | apply Ext.alloc | apply Ext.drew))) ⟨by decide, by decide⟩ 1 ⟨0, 0, 0⟩ (hx.ext (by repeat (first | exact Ext.refl _ | apply Ext.alloc | apply Ext.drew))) (Nts.nil _)).mono ?_
            rintro e w203 ⟨vhz, vshz, rfl, ohz, hZ202⟩
            have hE202 : Ext w202 w203 := Ext.trans (by repeat (first | exact Ext.refl _ | apply Ext.alloc | apply Ext.drew)) hZ202
            replace hrow1 := hrow1.ext hE202
            replace hp := hp.ext hE202
            replace hx := hx.ext hE202
            replace bX := bX.ext hE202
            replace xc1 := Ext.cell hE202 xc1
            have hF202 := Ext.trans (hF201) hE202
            rw [d1.out] at ohz ⊢
            dsimp only [Stk.zero] at ohz ⊢
            obtain ⟨ahz, chz, rfl, -⟩ := ohz.sts.form
            clear ohz
            have bX_0 : World.cell? w203 ⟨w1.heap.size, 0, none⟩ = some (.int .i64 1000000) := bX.cell 0
            have bX_1 : World.cell? w203 ⟨w1.heap.size, 1, none⟩ = some (.slice (some ⟨xb, xo, none⟩) X.length c1) := bX.cell 1
            have bX_l := bX.lt
            have xc1_l := World.block_lt_of_cell? _ _ xc1
            go_wp2_with fail
            try clear xc1_l
            clear bX_0 bX_1 bX_l
            refine (stacks_Retag (hp.ext (by repeat (first | exact Ext.refl _ | apply Ext.alloc | apply Ext.drew))) ⟨by decide, by decide⟩ 1 ⟨0, 0, 0⟩ (hx.ext (by repeat (first | exact Ext.refl _ | apply Ext.alloc | apply Ext.drew))) (Nts.nil _)).mono ?_
            rintro e w204 ⟨vhz, vshz, rfl, ohz, hZ203⟩
            have hE203 : Ext w203 w204 := Ext.trans (by repeat (first | exact Ext.refl _ | apply Ext.alloc | apply Ext.drew)) hZ203
            replace hrow1 := hrow1.ext hE203
            replace hp := hp.ext hE203
            replace hx := hx.ext hE203
            replace bX := bX.ext hE203
            replace xc1 := Ext.cell hE203 xc1
            have hF203 := Ext.trans (hF202) hE203
            rw [d2.out] at ohz ⊢
            dsimp only [Stk.zero] at ohz ⊢
            obtain ⟨ahz, chz, rfl, -⟩ := ohz.sts.form
            clear ohz
            have bX_0 : World.cell? w204 ⟨w1.heap.size, 0, none⟩ = some (.int .i64 1000000) := bX.cell 0
            have bX_1 : World.cell? w204 ⟨w1.heap.size, 1, none⟩ = some (.slice (some ⟨xb, xo, none⟩) X.length c1) := bX.cell 1
            have bX_l := bX.lt
            have xc1_l := World.block_lt_of_cell? _ _ xc1
            go_wp2_with fail
            try clear xc1_l
            clear bX_0 bX_1 bX_l
            refine (stacks_Retag (hp.ext (by repeat (first | exact Ext.refl _ | apply Ext.alloc | apply Ext.drew))) ⟨by decide, by decide⟩ 1 ⟨0, -1, 0⟩ (hx.ext (by repeat (first | exact Ext.refl _ | apply Ext.alloc | apply Ext.drew))) (Nts.nil _)).mono ?_
            rintro e w205 ⟨vhz, vshz, rfl, ohz, hZ204⟩
            have hE204 : Ext w204 w205 := Ext.trans (by repeat (first | exact Ext.refl _ | apply Ext.alloc | apply Ext.drew)) hZ204
            replace hrow1 := hrow1.ext hE204
            replace hp := hp.ext hE204
            replace hx := hx.ext hE204
            replace bX := bX.ext hE204
            replace xc1 := Ext.cell hE204 xc1
            have hF204 := Ext.trans (hF203) hE204
            rw [d3.out] at ohz ⊢
            dsimp only [Stk.zero] at ohz ⊢
            obtain ⟨ahz, chz, rfl, -⟩ := ohz.sts.form
            clear ohz
            have bX_0 : World.cell? w205 ⟨w1.heap.size, 0, none⟩ = some (.int .i64 1000000) := bX.cell 0
            have bX_1 : World.cell? w205 ⟨w1.heap.size, 1, none⟩ = some (.slice (some ⟨xb, xo, none⟩) X.length c1) := bX.cell 1
            have bX_l := bX.lt
            have xc1_l := World.block_lt_of_cell? _ _ xc1
            go_wp2_with fail
            try clear xc1_l
            clear bX_0 bX_1 bX_l
            refine (stacks_Retag (hp.ext (by repeat (first | exact Ext.refl _ | apply Ext.alloc | apply Ext.drew))) ⟨by decide, by decide⟩ 1 ⟨0, 0, 0⟩ (hx.ext (by repeat (first | exact Ext.refl _ | apply Ext.alloc | apply Ext.drew))) (Nts.nil _)).mono ?_
            rintro e w206 ⟨vhz, vshz, rfl, ohz, hZ205⟩
            have hE205 : Ext w205 w206 := Ext.trans (by repeat (first | exact Ext.refl _ | apply Ext.alloc | apply Ext.drew)) hZ205
            replace hrow1 := hrow1.ext hE205
            replace hp := hp.ext hE205
            replace hx := hx.ext hE205
            replace bX := bX.ext hE205
            replace xc1 := Ext.cell hE205 xc1
            have hF205 := Ext.trans (hF204) hE205
            rw [d4.out] at ohz ⊢
            dsimp only [Stk.zero] at ohz ⊢
            obtain ⟨ahz, chz, rfl, -⟩ := ohz.sts.form
            clear ohz
            have bX_0 : World.cell? w206 ⟨w1.heap.size, 0, none⟩ = some (.int .i64 1000000) := bX.cell 0
            have bX_1 : World.cell? w206 ⟨w1.heap.size, 1, none⟩ = some (.slice (some ⟨xb, xo, none⟩) X.length c1) := bX.cell 1
            have bX_l := bX.lt
            have xc1_l := World.block_lt_of_cell? _ _ xc1
            go_wp2_with fail
            try clear xc1_l
            clear bX_0 bX_1 bX_l
            have bz9 := Box.new w206 56 #[.int .i64 0, .slice ahz 0 chz]
            have hsz : Hid ((World.alloc w206 (.cells #[.int .i64 0, .slice ahz 0 chz] 56)).heap.size = w206.heap.size + 1) := Hid.mk (by simp)
            have hx206 : Ext w206 (World.alloc w206 (.cells #[.int .i64 0, .slice ahz 0 chz] 56)) := (Ext.refl _).alloc _
            obtain ⟨w206b, hw206⟩ : ∃ x, World.alloc w206 (.cells #[.int .i64 0, .slice ahz 0 chz] 56) = x := ⟨_, rfl⟩
            rw [hw206] at hsz bz9 hx206 ⊢
            clear hw206
            replace hrow1 := hrow1.ext hx206
            replace hp := hp.ext hx206
            replace hx := hx.ext hx206
            replace bX := bX.ext hx206
            replace xc1 := Ext.cell hx206 xc1
            have hF206 := Ext.trans (hF205) hx206
            have hszp := hsz
            have bi1 := Box.new w206b 23 #[.int .u8 1, .int .i64 1, .int .i64 0, .int .u8 1, .int .i64 2, .int .i64 3]
            have hsz : Hid ((World.alloc w206b (.cells #[.int .u8 1, .int .i64 1, .int .i64 0, .int .u8 1, .int .i64 2, .int .i64 3] 23)).heap.size = w206b.heap.size + 1) := Hid.mk (by simp)
            have hx207 : Ext w206b (World.alloc w206b (.cells #[.int .u8 1, .int .i64 1, .int .i64 0, .int .u8 1, .int .i64 2, .int .i64 3] 23)) := (Ext.refl _).alloc _
            obtain ⟨w207b, hw207⟩ : ∃ x, World.alloc w206b (.cells #[.int .u8 1, .int .i64 1, .int .i64 0, .int .u8 1, .int .i64 2, .int .i64 3] 23) = x := ⟨_, rfl⟩
            rw [hw207] at hsz bi1 hx207 ⊢
            clear hw207
            replace hrow1 := hrow1.ext hx207
            replace hp := hp.ext hx207
            replace hx := hx.ext hx207
            replace bX := bX.ext hx207
            replace bz9 := bz9.ext hx207
            replace xc1 := Ext.cell hx207 xc1
            have hF207 := Ext.trans (hF206) hx207
            rw [hszp.out] at bi1 hsz
            clear hszp
            have hszp := hsz
            have bi2 := Box.new w207b 23 #[.int .u8 1, .int .i64 4, .int .i64 0]
            have hsz : Hid ((World.alloc w207b (.cells #[.int .u8 1, .int .i64 4, .int .i64 0] 23)).heap.size = w207b.heap.size + 1) := Hid.mk (by simp)
            have hx208 : Ext w207b (World.alloc w207b (.cells #[.int .u8 1, .int .i64 4, .int .i64 0] 23)) := (Ext.refl _).alloc _
            obtain ⟨w208b, hw208⟩ : ∃ x, World.alloc w207b (.cells #[.int .u8 1, .int .i64 4, .int .i64 0] 23) = x := ⟨_, rfl⟩
            rw [hw208] at hsz bi2 hx208 ⊢
            clear hw208
            replace hrow1 := hrow1.ext hx208
            replace hp := hp.ext hx208
            replace hx := hx.ext hx208
            replace bX := bX.ext hx208
            replace bz9 := bz9.ext hx208
            replace bi1 := bi1.ext hx208
            replace xc1 := Ext.cell hx208 xc1
            have hF208 := Ext.trans (hF207) hx208
            rw [hszp.out] at bi2 hsz
            clear hszp
            have hszp := hsz
            have btb := Box.new w208b 31 #[.slice (some ⟨w206.heap.size + 1, 0, none⟩) 2 2, .slice (some ⟨w206.heap.size + 1 + 1, 0, none⟩) 1 1]
            have hsz : Hid ((World.alloc w208b (.cells #[.slice (some ⟨w206.heap.size + 1, 0, none⟩) 2 2, .slice (some ⟨w206.heap.size + 1 + 1, 0, none⟩) 1 1] 31)).heap.size = w208b.heap.size + 1) := Hid.mk (by simp)
            have hx209 : Ext w208b (World.alloc w208b (.cells #[.slice (some ⟨w206.heap.size + 1, 0, none⟩) 2 2, .slice (some ⟨w206.heap.size + 1 + 1, 0, none⟩) 1 1] 31)) := (Ext.refl _).alloc _
            obtain ⟨w209b, hw209⟩ : ∃ x, World.alloc w208b (.cells #[.slice (some ⟨w206.heap.size + 1, 0, none⟩) 2 2, .slice (some ⟨w206.heap.size + 1 + 1, 0, none⟩) 1 1] 31) = x := ⟨_, rfl⟩
            rw [hw209] at hsz btb hx209 ⊢
            clear hw209
            replace hrow1 := hrow1.ext hx209
            replace hp := hp.ext hx209
            replace hx := hx.ext hx209
            replace bX := bX.ext hx209
            replace bz9 := bz9.ext hx209
            replace bi1 := bi1.ext hx209
            replace bi2 := bi2.ext hx209
            replace xc1 := Ext.cell hx209 xc1
            have hF209 := Ext.trans (hF208) hx209
            rw [hszp.out] at btb hsz
            clear hszp
            have hszp := hsz
            have bT := Box.new w209b 56 #[.int .i64 0, .slice (some ⟨w206.heap.size + 1 + 1 + 1, 0, none⟩) 2 2]
            have hsz : Hid ((World.alloc w209b (.cells #[.int .i64 0, .slice (some ⟨w206.heap.size + 1 + 1 + 1, 0, none⟩) 2 2] 56)).heap.size = w209b.heap.size + 1) := Hid.mk (by simp)
            have hx210 : Ext w209b (World.alloc w209b (.cells #[.int .i64 0, .slice (some ⟨w206.heap.size + 1 + 1 + 1, 0, none⟩) 2 2] 56)) := (Ext.refl _).alloc _
            obtain ⟨w210b, hw210⟩ : ∃ x, World.alloc w209b (.cells #[.int .i64 0, .slice (some ⟨w206.heap.size + 1 + 1 + 1, 0, none⟩) 2 2] 56) = x := ⟨_, rfl⟩
            rw [hw210] at hsz bT hx210 ⊢
            clear hw210
            replace hrow1 := hrow1.ext hx210
            replace hp := hp.ext hx210
            replace hx := hx.ext hx210
            replace bX := bX.ext hx210
            replace bz9 := bz9.ext hx210
            replace bi1 := bi1.ext hx210
            replace bi2 := bi2.ext hx210
            replace btb := btb.ext hx210
            replace xc1 := Ext.cell hx210 xc1
            have hF210 := Ext.trans (hF209) hx210
            rw [hszp.out] at bT hsz
            clear hszp
            have hTw : Sts w210b (.slice (some ⟨w206.heap.size + 1 + 1 + 1, 0, none⟩) 2 2) two33 := Sts.of_box btb [_, _] ⟨Its.of_box bi1 rfl (by simp [maxLen]) rfl, Its.of_box bi2 rfl (by simp [maxLen]) rfl, trivial⟩ rfl (by simp [maxLen]) rfl
            clear bz9 bi1 bi2 btb
            refine (stacks_Write (run := [3]) 1 (hTw.ext (by repeat (first | exact Ext.refl _ | apply Ext.alloc | apply Ext.drew))) (by (repeat (first | exact Nts.nil _ | exact Nts.litl _ _ _ _ _ (by first | (simp; done) | exact hsz.out | (have := hsz.out; simp; omega)) rfl (by simp [maxLen]) rfl | refine Nts.ext ?_ (Ext.refl _).drew | refine Nts.ext ?_ ((Ext.refl _).alloc _) | refine Nts.ext ?_ (by assumption))))).mono ?_
            rintro e w212 ⟨vhy, vshy, rfl, ohy, hZ211⟩
            have hE211 : Ext w210b w212 := Ext.trans (by repeat (first | exact Ext.refl _ | apply Ext.alloc | apply Ext.drew)) hZ211
            replace hrow1 := hrow1.ext hE211
            replace hp := hp.ext hE211
            replace hx := hx.ext hE211
            replace bX := bX.ext hE211
            replace bT := bT.ext hE211
            replace hTw := hTw.ext hE211
            replace xc1 := Ext.cell hE211 xc1
            have hF211 := Ext.trans (hF210) hE211
            rw [two33_a] at ohy ⊢
            dsimp only [Stk.zero] at ohy ⊢
            have hy : Sts _ _ [] := ohy.sts
            obtain ⟨ahy, chy, rfl, -⟩ := hy.form
            clear ohy
            have bX_0 : World.cell? w212 ⟨w1.heap.size, 0, none⟩ = some (.int .i64 1000000) := bX.cell 0
            have bX_1 : World.cell? w212 ⟨w1.heap.size, 1, none⟩ = some (.slice (some ⟨xb, xo, none⟩) X.length c1) := bX.cell 1
            have bX_l := bX.lt
            have bT_0 : World.cell? w212 ⟨w206.heap.size + 1 + 1 + 1 + 1, 0, none⟩ = some (.int .i64 0) := bT.cell 0
            have bT_1 : World.cell? w212 ⟨w206.heap.size + 1 + 1 + 1 + 1, 1, none⟩ = some (.slice (some ⟨w206.heap.size + 1 + 1 + 1, 0, none⟩) 2 2) := bT.cell 1
            have bT_l := bT.lt
            have xc1_l := World.block_lt_of_cell? _ _ xc1
            go_wp2_with fail
            try clear xc1_l
            clear bX_0 bX_1 bX_l
            clear bT_0 bT_1 bT_l
            have bY := Box.new w212 56 #[.int .i64 0, .slice ahy 0 chy]
            have hsz : Hid ((World.alloc w212 (.cells #[.int .i64 0, .slice ahy 0 chy] 56)).heap.size = w212.heap.size + 1) := Hid.mk (by simp)
            have hx212 : Ext w212 (World.alloc w212 (.cells #[.int .i64 0, .slice ahy 0 chy] 56)) := (Ext.refl _).alloc _
            obtain ⟨w212b, hw212⟩ : ∃ x, World.alloc w212 (.cells #[.int .i64 0, .slice ahy 0 chy] 56) = x := ⟨_, rfl⟩
            rw [hw212] at hsz bY hx212 ⊢
            clear hw212
            replace hrow1 := hrow1.ext hx212
            replace hp := hp.ext hx212
            replace hx := hx.ext hx212
            replace bX := bX.ext hx212
            replace bT := bT.ext hx212
            replace hTw := hTw.ext hx212
            replace hy := hy.ext hx212
            replace xc1 := Ext.cell hx212 xc1
            have hF212 := Ext.trans (hF211) hx212
            refine (stacks_Write (run := [3]) 1 (hTw.ext (by repeat (first | exact Ext.refl _ | apply Ext.alloc | apply Ext.drew))) (by (repeat (first | exact Nts.nil _ | exact Nts.litl _ _ _ _ _ (by first | (simp; done) | exact hsz.out | (have := hsz.out; simp; omega)) rfl (by simp [maxLen]) rfl | refine Nts.ext ?_ (Ext.refl _).drew | refine Nts.ext ?_ ((Ext.refl _).alloc _) | refine Nts.ext ?_ (by assumption))))).mono ?_
            rintro e w214 ⟨vhz, vshz, rfl, ohz, hZ213⟩
            have hE213 : Ext w212b w214 := Ext.trans (by repeat (first | exact Ext.refl _ | apply Ext.alloc | apply Ext.drew)) hZ213
            replace hrow1 := hrow1.ext hE213
            replace hp := hp.ext hE213
            replace hx := hx.ext hE213
            replace bX := bX.ext hE213
            replace bT := bT.ext hE213
            replace hTw := hTw.ext hE213
            replace hy := hy.ext hE213
            replace bY := bY.ext hE213
            replace xc1 := Ext.cell hE213 xc1
            have hF213 := Ext.trans (hF212) hE213
            rw [two33_b] at ohz ⊢
            dsimp only [Stk.zero] at ohz ⊢
            obtain ⟨ahz, chz, rfl, -⟩ := ohz.sts.form
            clear ohz
            have bX_0 : World.cell? w214 ⟨w1.heap.size, 0, none⟩ = some (.int .i64 1000000) := bX.cell 0
            have bX_1 : World.cell? w214 ⟨w1.heap.size, 1, none⟩ = some (.slice (some ⟨xb, xo, none⟩) X.length c1) := bX.cell 1
            have bX_l := bX.lt
            have bT_0 : World.cell? w214 ⟨w206.heap.size + 1 + 1 + 1 + 1, 0, none⟩ = some (.int .i64 0) := bT.cell 0
            have bT_1 : World.cell? w214 ⟨w206.heap.size + 1 + 1 + 1 + 1, 1, none⟩ = some (.slice (some ⟨w206.heap.size + 1 + 1 + 1, 0, none⟩) 2 2) := bT.cell 1
            have bT_l := bT.lt
            have bY_0 : World.cell? w214 ⟨w212.heap.size, 0, none⟩ = some (.int .i64 0) := bY.cell 0
            have bY_1 : World.cell? w214 ⟨w212.heap.size, 1, none⟩ = some (.slice ahy 0 chy) := bY.cell 1
            have bY_l := bY.lt
            have xc1_l := World.block_lt_of_cell? _ _ xc1
            go_wp2_with fail
            try clear xc1_l
            clear bX_0 bX_1 bX_l
            clear bT_0 bT_1 bT_l
            clear bY_0 bY_1 bY_l
            refine (stacks_Write (run := []) 1 (hTw.ext (by repeat (first | exact Ext.refl _ | apply Ext.alloc | apply Ext.drew))) (Nts.nil _)).mono ?_
            rintro e w215 ⟨vhz, vshz, rfl, ohz, hZ214⟩
            have hE214 : Ext w214 w215 := Ext.trans (by repeat (first | exact Ext.refl _ | apply Ext.alloc | apply Ext.drew)) hZ214
            replace hrow1 := hrow1.ext hE214
            replace hp := hp.ext hE214
            replace hx := hx.ext hE214
            replace bX := bX.ext hE214
            replace bT := bT.ext hE214
            replace hTw := hTw.ext hE214
            replace hy := hy.ext hE214
            replace bY := bY.ext hE214
            replace xc1 := Ext.cell hE214 xc1
            have hF214 := Ext.trans (hF213) hE214
            rw [two33_c] at ohz ⊢
            dsimp only [Stk.zero] at ohz ⊢
            obtain ⟨ahz, chz, rfl, -⟩ := ohz.sts.form
            clear ohz
            have xl1 : ((X.length : Int) == 2) = true := by rw [X2.out]; rfl
            have xl2 : (X.length == 2) = true := by rw [X2.out]; rfl
            have xl3 : 1 < X.length := by rw [X2.out]; decide
            clear hTw hx
            have bX_0 : World.cell? w215 ⟨w1.heap.size, 0, none⟩ = some (.int .i64 1000000) := bX.cell 0
            have bX_1 : World.cell? w215 ⟨w1.heap.size, 1, none⟩ = some (.slice (some ⟨xb, xo, none⟩) X.length c1) := bX.cell 1
            have bX_l := bX.lt
            have bT_0 : World.cell? w215 ⟨w206.heap.size + 1 + 1 + 1 + 1, 0, none⟩ = some (.int .i64 0) := bT.cell 0
            have bT_1 : World.cell? w215 ⟨w206.heap.size + 1 + 1 + 1 + 1, 1, none⟩ = some (.slice (some ⟨w206.heap.size + 1 + 1 + 1, 0, none⟩) 2 2) := bT.cell 1
            have bT_l := bT.lt
            have bY_0 : World.cell? w215 ⟨w212.heap.size, 0, none⟩ = some (.int .i64 0) := bY.cell 0
            have bY_1 : World.cell? w215 ⟨w212.heap.size, 1, none⟩ = some (.slice ahy 0 chy) := bY.cell 1
            have bY_l := bY.lt
            have xc1_l := World.block_lt_of_cell? _ _ xc1
            go_wp2_with fail
            try clear xc1_l
            clear bX_0 bX_1 bX_l
            clear bT_0 bT_1 bT_l
            clear bY_0 bY_1 bY_l
            refine (law33_alive (hp.ext (by repeat (first | exact Ext.refl _ | apply Ext.alloc | apply Ext.drew)))).mono ?_
            rintro e w216 ⟨rfl, hZ215⟩
            have hE215 : Ext w215 w216 := Ext.trans (by repeat (first | exact Ext.refl _ | apply Ext.alloc | apply Ext.drew)) hZ215
            replace hrow1 := hrow1.ext hE215
            replace hp := hp.ext hE215
            replace bX := bX.ext hE215
            replace bT := bT.ext hE215
            replace hy := hy.ext hE215
            replace bY := bY.ext hE215
            replace xc1 := Ext.cell hE215 xc1
            have hF215 := Ext.trans (hF214) hE215
            have bX_0 : World.cell? w216 ⟨w1.heap.size, 0, none⟩ = some (.int .i64 1000000) := bX.cell 0
            have bX_1 : World.cell? w216 ⟨w1.heap.size, 1, none⟩ = some (.slice (some ⟨xb, xo, none⟩) X.length c1) := bX.cell 1
            have bX_l := bX.lt
            have bT_0 : World.cell? w216 ⟨w206.heap.size + 1 + 1 + 1 + 1, 0, none⟩ = some (.int .i64 0) := bT.cell 0
            have bT_1 : World.cell? w216 ⟨w206.heap.size + 1 + 1 + 1 + 1, 1, none⟩ = some (.slice (some ⟨w206.heap.size + 1 + 1 + 1, 0, none⟩) 2 2) := bT.cell 1
            have bT_l := bT.lt
            have bY_0 : World.cell? w216 ⟨w212.heap.size, 0, none⟩ = some (.int .i64 0) := bY.cell 0
            have bY_1 : World.cell? w216 ⟨w212.heap.size, 1, none⟩ = some (.slice ahy 0 chy) := bY.cell 1
            have bY_l := bY.lt
            have xc1_l := World.block_lt_of_cell? _ _ xc1
            go_wp2_with fail
            try clear xc1_l
            clear bX_0 bX_1 bX_l
            clear bT_0 bT_1 bT_l
            clear bY_0 bY_1 bY_l
            refine (ref28_Same_yes (l := T1) (hrow1.ext (by repeat (first | exact Ext.refl _ | apply Ext.alloc | apply Ext.drew))) (by repeat (first | exact Its.lit _ _ T1 _ _ (by first | (simp; done) | exact hsz.out | (have := hsz.out; simp; omega)) (by rw [← hT1.out]; rfl) (by simp [maxLen]) (by rw [← hT1.out]; rfl) | refine Its.ext ?_ (Ext.refl _).drew | refine Its.ext ?_ ((Ext.refl _).alloc _)))).mono ?_
            rintro e w217 ⟨rfl, hZ216⟩
            have hE216 : Ext w216 w217 := Ext.trans (by repeat (first | exact Ext.refl _ | apply Ext.alloc | apply Ext.drew)) hZ216
            replace hrow1 := hrow1.ext hE216
            replace hp := hp.ext hE216
            replace bX := bX.ext hE216
            replace bT := bT.ext hE216
            replace hy := hy.ext hE216
            replace bY := bY.ext hE216
            replace xc1 := Ext.cell hE216 xc1
            have hF216 := Ext.trans (hF215) hE216
            have bX_0 : World.cell? w217 ⟨w1.heap.size, 0, none⟩ = some (.int .i64 1000000) := bX.cell 0
            have bX_1 : World.cell? w217 ⟨w1.heap.size, 1, none⟩ = some (.slice (some ⟨xb, xo, none⟩) X.length c1) := bX.cell 1
            have bX_l := bX.lt
            have bT_0 : World.cell? w217 ⟨w206.heap.size + 1 + 1 + 1 + 1, 0, none⟩ = some (.int .i64 0) := bT.cell 0
            have bT_1 : World.cell? w217 ⟨w206.heap.size + 1 + 1 + 1 + 1, 1, none⟩ = some (.slice (some ⟨w206.heap.size + 1 + 1 + 1, 0, none⟩) 2 2) := bT.cell 1
            have bT_l := bT.lt
            have bY_0 : World.cell? w217 ⟨w212.heap.size, 0, none⟩ = some (.int .i64 0) := bY.cell 0
            have bY_1 : World.cell? w217 ⟨w212.heap.size, 1, none⟩ = some (.slice ahy 0 chy) := bY.cell 1
            have bY_l := bY.lt
            have xc1_l := World.block_lt_of_cell? _ _ xc1
            go_wp2_with fail
            try clear xc1_l
            clear bX_0 bX_1 bX_l
            clear bT_0 bT_1 bT_l
            clear bY_0 bY_1 bY_l
            refine (ref33_Same (hy.ext (by repeat (first | exact Ext.refl _ | apply Ext.alloc | apply Ext.drew))) (Sts.nil _)).mono ?_
            rintro e w218 ⟨rfl, hZ217⟩
            have hE217 : Ext w217 w218 := Ext.trans (by repeat (first | exact Ext.refl _ | apply Ext.alloc | apply Ext.drew)) hZ217
            replace hrow1 := hrow1.ext hE217
            replace hp := hp.ext hE217
            replace bX := bX.ext hE217
            replace bT := bT.ext hE217
            replace hy := hy.ext hE217
            replace bY := bY.ext hE217
            replace xc1 := Ext.cell hE217 xc1
            have hF217 := Ext.trans (hF216) hE217
            have bX_0 : World.cell? w218 ⟨w1.heap.size, 0, none⟩ = some (.int .i64 1000000) := bX.cell 0
            have bX_1 : World.cell? w218 ⟨w1.heap.size, 1, none⟩ = some (.slice (some ⟨xb, xo, none⟩) X.length c1) := bX.cell 1
            have bX_l := bX.lt
            have bT_0 : World.cell? w218 ⟨w206.heap.size + 1 + 1 + 1 + 1, 0, none⟩ = some (.int .i64 0) := bT.cell 0
            have bT_1 : World.cell? w218 ⟨w206.heap.size + 1 + 1 + 1 + 1, 1, none⟩ = some (.slice (some ⟨w206.heap.size + 1 + 1 + 1, 0, none⟩) 2 2) := bT.cell 1
            have bT_l := bT.lt
            have bY_0 : World.cell? w218 ⟨w212.heap.size, 0, none⟩ = some (.int .i64 0) := bY.cell 0
            have bY_1 : World.cell? w218 ⟨w212.heap.size, 1, none⟩ = some (.slice ahy 0 chy) := bY.cell 1
            have bY_l := bY.lt
            have xc1_l := World.block_lt_of_cell? _ _ xc1
            go_wp2
            go_ret
            exact ⟨rfl, hF217⟩
set_option maxRecDepth 100000 in
theorem stacksNames_contract (H : Type) (enc : TypeId × Value → H) (W : World) (base : Nat) (args : Array Value) (ds gs : List (DataW H)) (before : List MemPlace)
    (hval0 : ∀ (j : Nat) t v, Tryd.f6.params[j]? = some t → args[j]? = some v → Value.okWide Tryd.prog W .any base t v)
    (hW : DataW.Whole enc Tryd.prog Tryd.f6.params.toList Rows.stacksNamesSpec.vars false W args.toList ds gs before) (hL : laidMetH Tryd.prog Rows.stacksNamesRow.laid W) :
    Calls Tryd.prog 6 args W fun e W' => ∃ v, e = .returned v ∧ Rows.stacksNamesSpec.post enc Tryd.prog Tryd.f6 false true false false W args v W' := by
  have hval : ∀ (j : Nat) t v, Tryd.f6.params[j]? = some t → args[j]? = some v → Value.okWide Tryd.prog W .any base t v := hval0
  have hW' := hW
  obtain ⟨p, q, hA0, hV, rfl, hfz, hnd⟩ := hW
  have hA : DataW.TrodAll enc Tryd.prog W 0 (fun _ => true) true Tryd.f6.params.toList args.toList ds p := hA0
  rw [Tryd.params6] at hA hval
  obtain ⟨hargs, rfl, rfl⟩ := trodAll_nil hA
  obtain rfl : args = #[] := by cases args; simp_all
  refine (stacksNames_walk (perms_of_laid hL) ).mono fun e W' ⟨he, hb⟩ => ?_
  subst he
  exact ⟨_, rfl, post_law TrydlaidOut (tb := 4) rfl Tryd.underlying4 (by kernel_rfl) rfl (fun ds hd => match ds, hd with | [], _ => rfl) hW' hb⟩
theorem stacksNames_met (os : Os) : laidMet Tryd.prog Rows.stacksNamesRow.laid ((doorWorld os).forCall (fun _ _ => 0) ⟨#[], #[], []⟩).memory :=
  laidMet_of_run' 8 (by kernel_rfl) (by kernel_rfl)
theorem stacksNames_reads (os : Os) {H : Type} (enc : TypeId × Value → H) : ∃ places, DataW.whole enc Tryd.prog ((doorWorld os).forCall (fun _ _ => 0) ⟨#[], #[], []⟩).memory Tryd.f6.params.toList Rows.stacksNamesSpec.vars false (#[] : Array Value).toList 8 = some ([], [], places) :=
  ⟨[], by kernel_rfl⟩
set_option maxRecDepth 100000 in
theorem stacksNames_lifted (os : Os) (started : os.Started) (H : Type) (enc : TypeId × Value → H) (F : Stop.Interp) :
    ReturnsInHanded {} Tryd.checked os 6 .any ((OpenSpec.ofChange Rows.stacksNamesSpec).preRow enc Tryd.prog Tryd.f6 Rows.stacksNamesRow.domain false Rows.stacksNamesRow.laid) (((OpenSpec.ofChange Rows.stacksNamesSpec).at F).post enc Tryd.prog Tryd.f6 false true false false) := by
  obtain ⟨places, hx⟩ := stacksNames_reads os enc
  refine returnsInHanded_of_row (C := Tryd.checked) (s := OpenSpec.ofChange Rows.stacksNamesSpec) Trydown started (by kernel_rfl) Tryd.func6
    (witness_row_at (enc := enc) (C := Tryd.checked) false (doorWorld os) #[] rfl (by kernel_rfl) (by kernel_rfl) (by kernel_rfl)
      (OpenSpec.preRow_of_cond 8 hx (by kernel_rfl) (fun k hk => by cases hk) (by kernel_rfl) (stacksNames_met os))) ?_
  intro W base args ds gs before hval hW _ _ _ hL _ _
  exact stacksNames_contract H enc W base args ds gs before hval hW hL
theorem stacksNames_said : Rows.StacksNamesSaid :=
  OpenClaim.holds_of_cond 6 Tryd.f6 rfl rfl rfl rfl rfl rfl rfl ⟨rfl, rfl, rfl, rfl, rfl⟩ rfl rfl rfl rfl rfl (by kernel_rfl) Tryd.func6 (by kernel_rfl)
    (of_decide_eq_true (by kernel_rfl)) (by unfold Func.isWrapper; first | (rw [if_pos (by decide +kernel)]; kernel_rfl) | (rw [if_neg (by decide +kernel)]; exact ⟨rfl, rfl⟩))
    (fun os started H enc _ F => by rw [OpenClaim.pre_eq_preRow]; exact stacksNames_lifted os started H enc F)
theorem stacksNames_plain (f : FuncId) (fn : Func) (hf : Tryd.pinned.checked.prog.funcNamed "pawnshop/pawnshoplaw33.StacksNames" = some f) (hfn : Tryd.pinned.checked.prog.funcs[f]? = some fn) :
    false = Tryd.pinned.checked.prog.looks [] ∧ ∀ (j : Nat) t, fn.params[j]? = some t → Tryd.pinned.checked.prog.wantsStandIn t = false := by
  obtain rfl : f = 6 := Option.some.inj ((show Tryd.prog.funcNamed "pawnshop/pawnshoplaw33.StacksNames" = some 6 by kernel_rfl).symm.trans hf) |>.symm
  obtain rfl : fn = Tryd.f6 := (Option.some.inj (Tryd.func6.symm.trans hfn)).symm
  refine ⟨by kernel_rfl, fun j t ht => ?_⟩
  have hm : t ∈ Tryd.f6.params.toList := by simpa using Array.mem_of_getElem? ht
  have hall : (Tryd.f6.params.toList.all fun u => !Tryd.prog.wantsStandIn u) = true := by kernel_rfl
  exact (show Tryd.prog.wantsStandIn t = false by simpa using List.all_eq_true.1 hall t hm)
theorem stacksNames_card : Rows.StacksNamesCardSaid :=
  Claim7.holds_tied_plain_at .later [] _ _ _ _ stacksNames_said (fun _ h => by cases h) (by kernel_rfl) (fun _ h => by cases h) stacksNames_row_tie rfl ⟨rfl, rfl⟩ (by kernel_rfl) rfl stacksNames_plain (by kernel_rfl)

end Go.Proofs.YtkbocenpkdaogaaDoor
