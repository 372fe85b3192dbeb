/- The statement AllocsEnds: for every memory and number the call returns true. No condition. -/
import Derived.Test.YtcklnoefheanlaaCelWD
import Derived.Test.YtcklnoefheanlaaReadM
import Derived.Test.YtcklnoefheanlaaClose
namespace Go.Proofs.Ytcklnoefheanlaa
open Go.ChangeShapes Go.WideShapes Go.ChangeAt Go.RowKit

theorem small_of_great' {l : List Alloc} (h : greatM l = false) : small l := by
  rw [greatM_eq, Bool.or_eq_false_iff] at h
  obtain ⟨h1, h2⟩ := h
  have h3 : l.length ≤ 410 := by simpa using h2
  rw [List.take_of_length_le (by omega)] at h1
  refine ⟨by omega, fun a ha => ?_⟩
  have := List.any_eq_false.1 h1 a ha
  simp [wide] at this
  omega

set_option maxRecDepth 100000 in
set_option maxHeartbeats 6400000 in
theorem allocsEnds_walk {m : Mem} {s : Value} {w : World} (n : Int) (hl : Als w s m.al) (hn : i64B m.next) :
    Calls Try.prog 6 #[.agg #[s, .int .i64 m.next], .int .i64 n] w fun e w' => e = .returned (.bool true) ∧ Ext w w' := by
  have hF := (Ext.refl w).alloc (.cells #[s, .int .i64 m.next] 31)
  have bM := Box.new w 31 #[s, .int .i64 m.next]
  have hL := hl.ext hF
  obtain ⟨a, cp, rfl, -⟩ := hl.form
  clear hl
  obtain ⟨⟨GA, ge⟩, hG⟩ : ∃ A, getR m n = A := ⟨_, rfl⟩
  obtain ⟨⟨EM, ee⟩, hE⟩ : ∃ A, endR m n = A := ⟨_, rfl⟩
  obtain ⟨⟨FM, fe⟩, hFo⟩ : ∃ A, forgetR m = A := ⟨_, rfl⟩
  cases hg : greatM m.al
  · have hsm := small_of_great' hg
    have hg' := Lib.hid hg
    have hG' := Lib.hid hG
    have hE' := Lib.hid hE
    have hFo' := Lib.hid hFo
    clear hg hG hE hFo
    go_enter Try.func6, Try.ntmps6
    go_wp2_with fail
    obtain ⟨w0, hw0⟩ : ∃ x, w.alloc (.cells #[.slice a m.al.length cp, .int .i64 m.next] 31) = x := ⟨_, rfl⟩
    rw [hw0] at hF bM hL ⊢
    clear hw0
    refine (ref26_Great hL).mono ?_
    rintro e w1 ⟨rfl, hE0⟩
    replace bM := bM.ext hE0
    replace hL := hL.ext hE0
    have hF0 := Ext.trans (hF) hE0
    rw [hg'.out]
    have bM_0 : World.cell? w1 ⟨w.heap.size, 0, none⟩ = some (.slice a m.al.length cp) := bM.cell 0
    have bM_1 : World.cell? w1 ⟨w.heap.size, 1, none⟩ = some (.int .i64 m.next) := bM.cell 1
    have bM_l := bM.lt
    go_wp2_with fail
    clear bM_0 bM_1 bM_l
    refine (ref26_Twin hL hsm).mono ?_
    rintro e w2 ⟨vh, vs, rfl, hOM, hE1⟩
    replace bM := bM.ext hE1
    replace hL := hL.ext hE1
    have hF1 := Ext.trans (hF0) hE1
    have hT := OM.read hOM
    obtain ⟨ah, ch, rfl, -⟩ := hT.form
    clear hOM
    have bM_0 : World.cell? w2 ⟨w.heap.size, 0, none⟩ = some (.slice a m.al.length cp) := bM.cell 0
    have bM_1 : World.cell? w2 ⟨w.heap.size, 1, none⟩ = some (.int .i64 m.next) := bM.cell 1
    have bM_l := bM.lt
    go_wp2_with fail
    clear bM_0 bM_1 bM_l
    have bH := Box.new w2 31 #[.slice ah m.al.length ch, .int .i64 m.next]
    have hx2 : Ext w2 (World.alloc w2 (.cells #[.slice ah m.al.length ch, .int .i64 m.next] 31)) := (Ext.refl _).alloc _
    obtain ⟨w2b, hw2⟩ : ∃ x, World.alloc w2 (.cells #[.slice ah m.al.length ch, .int .i64 m.next] 31) = x := ⟨_, rfl⟩
    rw [hw2] at bH hx2 ⊢
    clear hw2
    replace bM := bM.ext hx2
    replace hL := hL.ext hx2
    replace hT := hT.ext hx2
    have hF2 := Ext.trans (hF1) hx2
    refine (allocs_Get n hL hn).mono ?_
    rintro e w4 ⟨va, rfl, hga, hE3⟩
    replace bM := bM.ext hE3
    replace hL := hL.ext hE3
    replace hT := hT.ext hE3
    replace bH := bH.ext hE3
    have hF3 := Ext.trans (hF2) hE3
    rw [hG'.out] at hga
    rw [hG'.out]
    obtain ⟨ga, gca, rfl, -⟩ := hga.form
    have bM_0 : World.cell? w4 ⟨w.heap.size, 0, none⟩ = some (.slice a m.al.length cp) := bM.cell 0
    have bM_1 : World.cell? w4 ⟨w.heap.size, 1, none⟩ = some (.int .i64 m.next) := bM.cell 1
    have bM_l := bM.lt
    have bH_0 : World.cell? w4 ⟨w2.heap.size, 0, none⟩ = some (.slice ah m.al.length ch) := bH.cell 0
    have bH_1 : World.cell? w4 ⟨w2.heap.size, 1, none⟩ = some (.int .i64 m.next) := bH.cell 1
    have bH_l := bH.lt
    go_wp2_with fail
    clear bM_0 bM_1 bM_l
    clear bH_0 bH_1 bH_l
    have bGA := Box.new w4 28 #[.int .i64 GA.num, .bool GA.live, .slice ga GA.cells.length gca]
    have hx4 : Ext w4 (World.alloc w4 (.cells #[.int .i64 GA.num, .bool GA.live, .slice ga GA.cells.length gca] 28)) := (Ext.refl _).alloc _
    obtain ⟨w4b, hw4⟩ : ∃ x, World.alloc w4 (.cells #[.int .i64 GA.num, .bool GA.live, .slice ga GA.cells.length gca] 28) = x := ⟨_, rfl⟩
    rw [hw4] at bGA hx4 ⊢
    clear hw4
    replace bM := bM.ext hx4
    replace hL := hL.ext hx4
    replace hT := hT.ext hx4
    replace bH := bH.ext hx4
    replace hga := hga.ext hx4
    have hF4 := Ext.trans (hF3) hx4
    refine (ref26_Get n hT hn).mono ?_
    rintro e w6 ⟨vb, rfl, hgb, hE5⟩
    replace bM := bM.ext hE5
    replace hL := hL.ext hE5
    replace hT := hT.ext hE5
    replace bH := bH.ext hE5
    replace hga := hga.ext hE5
    replace bGA := bGA.ext hE5
    have hF5 := Ext.trans (hF4) hE5
    rw [hG'.out] at hgb
    rw [hG'.out]
    obtain ⟨gb, gcb, rfl, -⟩ := hgb.form
    have bM_0 : World.cell? w6 ⟨w.heap.size, 0, none⟩ = some (.slice a m.al.length cp) := bM.cell 0
    have bM_1 : World.cell? w6 ⟨w.heap.size, 1, none⟩ = some (.int .i64 m.next) := bM.cell 1
    have bM_l := bM.lt
    have bH_0 : World.cell? w6 ⟨w2.heap.size, 0, none⟩ = some (.slice ah m.al.length ch) := bH.cell 0
    have bH_1 : World.cell? w6 ⟨w2.heap.size, 1, none⟩ = some (.int .i64 m.next) := bH.cell 1
    have bH_l := bH.lt
    have bGA_0 : World.cell? w6 ⟨w4.heap.size, 0, none⟩ = some (.int .i64 GA.num) := bGA.cell 0
    have bGA_1 : World.cell? w6 ⟨w4.heap.size, 1, none⟩ = some (.bool GA.live) := bGA.cell 1
    have bGA_2 : World.cell? w6 ⟨w4.heap.size, 2, none⟩ = some (.slice ga GA.cells.length gca) := bGA.cell 2
    have bGA_l := bGA.lt
    go_wp2_with fail
    clear bM_0 bM_1 bM_l
    clear bH_0 bH_1 bH_l
    clear bGA_0 bGA_1 bGA_2 bGA_l
    have bGB := Box.new w6 28 #[.int .i64 GA.num, .bool GA.live, .slice gb GA.cells.length gcb]
    have hx6 : Ext w6 (World.alloc w6 (.cells #[.int .i64 GA.num, .bool GA.live, .slice gb GA.cells.length gcb] 28)) := (Ext.refl _).alloc _
    obtain ⟨w6b, hw6⟩ : ∃ x, World.alloc w6 (.cells #[.int .i64 GA.num, .bool GA.live, .slice gb GA.cells.length gcb] 28) = x := ⟨_, rfl⟩
    rw [hw6] at bGB hx6 ⊢
    clear hw6
    replace bM := bM.ext hx6
    replace hL := hL.ext hx6
    replace hT := hT.ext hx6
    replace bH := bH.ext hx6
    replace hga := hga.ext hx6
    replace bGA := bGA.ext hx6
    replace hgb := hgb.ext hx6
    have hF6 := Ext.trans (hF5) hx6
    refine (allocs_End n hL hn).mono ?_
    rintro e w8 ⟨qx, rfl, fx, hE7⟩
    replace bM := bM.ext hE7
    replace hL := hL.ext hE7
    replace hT := hT.ext hE7
    replace bH := bH.ext hE7
    replace hga := hga.ext hE7
    replace bGA := bGA.ext hE7
    replace hgb := hgb.ext hE7
    replace bGB := bGB.ext hE7
    have hF7 := Ext.trans (hF6) hE7
    rw [hE'.out] at fx
    rw [hE'.out]
    obtain ⟨qx', rfl, hx⟩ := fx.read
    obtain ⟨sx, cx, rfl, -⟩ := hx.form
    clear fx
    have bM_0 : World.cell? w8 ⟨w.heap.size, 0, none⟩ = some (.slice a m.al.length cp) := bM.cell 0
    have bM_1 : World.cell? w8 ⟨w.heap.size, 1, none⟩ = some (.int .i64 m.next) := bM.cell 1
    have bM_l := bM.lt
    have bH_0 : World.cell? w8 ⟨w2.heap.size, 0, none⟩ = some (.slice ah m.al.length ch) := bH.cell 0
    have bH_1 : World.cell? w8 ⟨w2.heap.size, 1, none⟩ = some (.int .i64 m.next) := bH.cell 1
    have bH_l := bH.lt
    have bGA_0 : World.cell? w8 ⟨w4.heap.size, 0, none⟩ = some (.int .i64 GA.num) := bGA.cell 0
    have bGA_1 : World.cell? w8 ⟨w4.heap.size, 1, none⟩ = some (.bool GA.live) := bGA.cell 1
    have bGA_2 : World.cell? w8 ⟨w4.heap.size, 2, none⟩ = some (.slice ga GA.cells.length gca) := bGA.cell 2
    have bGA_l := bGA.lt
    have bGB_0 : World.cell? w8 ⟨w6.heap.size, 0, none⟩ = some (.int .i64 GA.num) := bGB.cell 0
    have bGB_1 : World.cell? w8 ⟨w6.heap.size, 1, none⟩ = some (.bool GA.live) := bGB.cell 1
    have bGB_2 : World.cell? w8 ⟨w6.heap.size, 2, none⟩ = some (.slice gb GA.cells.length gcb) := bGB.cell 2
    have bGB_l := bGB.lt
    go_wp2_with fail
    clear bM_0 bM_1 bM_l
    clear bH_0 bH_1 bH_l
    clear bGA_0 bGA_1 bGA_2 bGA_l
    clear bGB_0 bGB_1 bGB_2 bGB_l
    have bXX := Box.new w8 31 #[.slice sx EM.al.length cx, .int .i64 EM.next]
    have hx8 : Ext w8 (World.alloc w8 (.cells #[.slice sx EM.al.length cx, .int .i64 EM.next] 31)) := (Ext.refl _).alloc _
    obtain ⟨w8b, hw8⟩ : ∃ x, World.alloc w8 (.cells #[.slice sx EM.al.length cx, .int .i64 EM.next] 31) = x := ⟨_, rfl⟩
    rw [hw8] at bXX hx8 ⊢
    clear hw8
    replace bM := bM.ext hx8
    replace hL := hL.ext hx8
    replace hT := hT.ext hx8
    replace bH := bH.ext hx8
    replace hga := hga.ext hx8
    replace bGA := bGA.ext hx8
    replace hgb := hgb.ext hx8
    replace bGB := bGB.ext hx8
    replace hx := hx.ext hx8
    have hF8 := Ext.trans (hF7) hx8
    refine (ref26_End n hT hn).mono ?_
    rintro e w10 ⟨qy, rfl, fy, hE9⟩
    replace bM := bM.ext hE9
    replace hL := hL.ext hE9
    replace hT := hT.ext hE9
    replace bH := bH.ext hE9
    replace hga := hga.ext hE9
    replace bGA := bGA.ext hE9
    replace hgb := hgb.ext hE9
    replace bGB := bGB.ext hE9
    replace hx := hx.ext hE9
    replace bXX := bXX.ext hE9
    have hF9 := Ext.trans (hF8) hE9
    rw [hE'.out] at fy
    rw [hE'.out]
    obtain ⟨qy', rfl, hy⟩ := fy.read
    obtain ⟨sy, cy, rfl, -⟩ := hy.form
    clear fy
    have bM_0 : World.cell? w10 ⟨w.heap.size, 0, none⟩ = some (.slice a m.al.length cp) := bM.cell 0
    have bM_1 : World.cell? w10 ⟨w.heap.size, 1, none⟩ = some (.int .i64 m.next) := bM.cell 1
    have bM_l := bM.lt
    have bH_0 : World.cell? w10 ⟨w2.heap.size, 0, none⟩ = some (.slice ah m.al.length ch) := bH.cell 0
    have bH_1 : World.cell? w10 ⟨w2.heap.size, 1, none⟩ = some (.int .i64 m.next) := bH.cell 1
    have bH_l := bH.lt
    have bGA_0 : World.cell? w10 ⟨w4.heap.size, 0, none⟩ = some (.int .i64 GA.num) := bGA.cell 0
    have bGA_1 : World.cell? w10 ⟨w4.heap.size, 1, none⟩ = some (.bool GA.live) := bGA.cell 1
    have bGA_2 : World.cell? w10 ⟨w4.heap.size, 2, none⟩ = some (.slice ga GA.cells.length gca) := bGA.cell 2
    have bGA_l := bGA.lt
    have bGB_0 : World.cell? w10 ⟨w6.heap.size, 0, none⟩ = some (.int .i64 GA.num) := bGB.cell 0
    have bGB_1 : World.cell? w10 ⟨w6.heap.size, 1, none⟩ = some (.bool GA.live) := bGB.cell 1
    have bGB_2 : World.cell? w10 ⟨w6.heap.size, 2, none⟩ = some (.slice gb GA.cells.length gcb) := bGB.cell 2
    have bGB_l := bGB.lt
    have bXX_0 : World.cell? w10 ⟨w8.heap.size, 0, none⟩ = some (.slice sx EM.al.length cx) := bXX.cell 0
    have bXX_1 : World.cell? w10 ⟨w8.heap.size, 1, none⟩ = some (.int .i64 EM.next) := bXX.cell 1
    have bXX_l := bXX.lt
    go_wp2_with fail
    clear bM_0 bM_1 bM_l
    clear bH_0 bH_1 bH_l
    clear bGA_0 bGA_1 bGA_2 bGA_l
    clear bGB_0 bGB_1 bGB_2 bGB_l
    clear bXX_0 bXX_1 bXX_l
    have bYY := Box.new w10 31 #[.slice sy EM.al.length cy, .int .i64 EM.next]
    have hx10 : Ext w10 (World.alloc w10 (.cells #[.slice sy EM.al.length cy, .int .i64 EM.next] 31)) := (Ext.refl _).alloc _
    obtain ⟨w10b, hw10⟩ : ∃ x, World.alloc w10 (.cells #[.slice sy EM.al.length cy, .int .i64 EM.next] 31) = x := ⟨_, rfl⟩
    rw [hw10] at bYY hx10 ⊢
    clear hw10
    replace bM := bM.ext hx10
    replace hL := hL.ext hx10
    replace hT := hT.ext hx10
    replace bH := bH.ext hx10
    replace hga := hga.ext hx10
    replace bGA := bGA.ext hx10
    replace hgb := hgb.ext hx10
    replace bGB := bGB.ext hx10
    replace hx := hx.ext hx10
    replace bXX := bXX.ext hx10
    replace hy := hy.ext hx10
    have hF10 := Ext.trans (hF9) hx10
    refine (allocs_Forget hL hn).mono ?_
    rintro e w12 ⟨qu, rfl, fu, hE11⟩
    replace bM := bM.ext hE11
    replace hL := hL.ext hE11
    replace hT := hT.ext hE11
    replace bH := bH.ext hE11
    replace hga := hga.ext hE11
    replace bGA := bGA.ext hE11
    replace hgb := hgb.ext hE11
    replace bGB := bGB.ext hE11
    replace hx := hx.ext hE11
    replace bXX := bXX.ext hE11
    replace hy := hy.ext hE11
    replace bYY := bYY.ext hE11
    have hF11 := Ext.trans (hF10) hE11
    rw [hFo'.out] at fu
    rw [hFo'.out]
    obtain ⟨qu', rfl, hu⟩ := fu.read
    obtain ⟨su, cu, rfl, -⟩ := hu.form
    clear fu
    have bM_0 : World.cell? w12 ⟨w.heap.size, 0, none⟩ = some (.slice a m.al.length cp) := bM.cell 0
    have bM_1 : World.cell? w12 ⟨w.heap.size, 1, none⟩ = some (.int .i64 m.next) := bM.cell 1
    have bM_l := bM.lt
    have bH_0 : World.cell? w12 ⟨w2.heap.size, 0, none⟩ = some (.slice ah m.al.length ch) := bH.cell 0
    have bH_1 : World.cell? w12 ⟨w2.heap.size, 1, none⟩ = some (.int .i64 m.next) := bH.cell 1
    have bH_l := bH.lt
    have bGA_0 : World.cell? w12 ⟨w4.heap.size, 0, none⟩ = some (.int .i64 GA.num) := bGA.cell 0
    have bGA_1 : World.cell? w12 ⟨w4.heap.size, 1, none⟩ = some (.bool GA.live) := bGA.cell 1
    have bGA_2 : World.cell? w12 ⟨w4.heap.size, 2, none⟩ = some (.slice ga GA.cells.length gca) := bGA.cell 2
    have bGA_l := bGA.lt
    have bGB_0 : World.cell? w12 ⟨w6.heap.size, 0, none⟩ = some (.int .i64 GA.num) := bGB.cell 0
    have bGB_1 : World.cell? w12 ⟨w6.heap.size, 1, none⟩ = some (.bool GA.live) := bGB.cell 1
    have bGB_2 : World.cell? w12 ⟨w6.heap.size, 2, none⟩ = some (.slice gb GA.cells.length gcb) := bGB.cell 2
    have bGB_l := bGB.lt
    have bXX_0 : World.cell? w12 ⟨w8.heap.size, 0, none⟩ = some (.slice sx EM.al.length cx) := bXX.cell 0
    have bXX_1 : World.cell? w12 ⟨w8.heap.size, 1, none⟩ = some (.int .i64 EM.next) := bXX.cell 1
    have bXX_l := bXX.lt
    have bYY_0 : World.cell? w12 ⟨w10.heap.size, 0, none⟩ = some (.slice sy EM.al.length cy) := bYY.cell 0
    have bYY_1 : World.cell? w12 ⟨w10.heap.size, 1, none⟩ = some (.int .i64 EM.next) := bYY.cell 1
    have bYY_l := bYY.lt
    go_wp2_with fail
    clear bM_0 bM_1 bM_l
    clear bH_0 bH_1 bH_l
    clear bGA_0 bGA_1 bGA_2 bGA_l
    clear bGB_0 bGB_1 bGB_2 bGB_l
    clear bXX_0 bXX_1 bXX_l
    clear bYY_0 bYY_1 bYY_l
    have bUU := Box.new w12 31 #[.slice su FM.al.length cu, .int .i64 FM.next]
    have hx12 : Ext w12 (World.alloc w12 (.cells #[.slice su FM.al.length cu, .int .i64 FM.next] 31)) := (Ext.refl _).alloc _
    obtain ⟨w12b, hw12⟩ : ∃ x, World.alloc w12 (.cells #[.slice su FM.al.length cu, .int .i64 FM.next] 31) = x := ⟨_, rfl⟩
    rw [hw12] at bUU hx12 ⊢
    clear hw12
    replace bM := bM.ext hx12
    replace hL := hL.ext hx12
    replace hT := hT.ext hx12
    replace bH := bH.ext hx12
    replace hga := hga.ext hx12
    replace bGA := bGA.ext hx12
    replace hgb := hgb.ext hx12
    replace bGB := bGB.ext hx12
    replace hx := hx.ext hx12
    replace bXX := bXX.ext hx12
    replace hy := hy.ext hx12
    replace bYY := bYY.ext hx12
    replace hu := hu.ext hx12
    have hF12 := Ext.trans (hF11) hx12
    refine (ref26_Forget hT hn).mono ?_
    rintro e w14 ⟨qv, rfl, fv, hE13⟩
    replace bM := bM.ext hE13
    replace hL := hL.ext hE13
    replace hT := hT.ext hE13
    replace bH := bH.ext hE13
    replace hga := hga.ext hE13
    replace bGA := bGA.ext hE13
    replace hgb := hgb.ext hE13
    replace bGB := bGB.ext hE13
    replace hx := hx.ext hE13
    replace bXX := bXX.ext hE13
    replace hy := hy.ext hE13
    replace bYY := bYY.ext hE13
    replace hu := hu.ext hE13
    replace bUU := bUU.ext hE13
    have hF13 := Ext.trans (hF12) hE13
    rw [hFo'.out] at fv
    rw [hFo'.out]
    obtain ⟨qv', rfl, hv⟩ := fv.read
    obtain ⟨sv, cv, rfl, -⟩ := hv.form
    clear fv
    have bM_0 : World.cell? w14 ⟨w.heap.size, 0, none⟩ = some (.slice a m.al.length cp) := bM.cell 0
    have bM_1 : World.cell? w14 ⟨w.heap.size, 1, none⟩ = some (.int .i64 m.next) := bM.cell 1
    have bM_l := bM.lt
    have bH_0 : World.cell? w14 ⟨w2.heap.size, 0, none⟩ = some (.slice ah m.al.length ch) := bH.cell 0
    have bH_1 : World.cell? w14 ⟨w2.heap.size, 1, none⟩ = some (.int .i64 m.next) := bH.cell 1
    have bH_l := bH.lt
    have bGA_0 : World.cell? w14 ⟨w4.heap.size, 0, none⟩ = some (.int .i64 GA.num) := bGA.cell 0
    have bGA_1 : World.cell? w14 ⟨w4.heap.size, 1, none⟩ = some (.bool GA.live) := bGA.cell 1
    have bGA_2 : World.cell? w14 ⟨w4.heap.size, 2, none⟩ = some (.slice ga GA.cells.length gca) := bGA.cell 2
    have bGA_l := bGA.lt
    have bGB_0 : World.cell? w14 ⟨w6.heap.size, 0, none⟩ = some (.int .i64 GA.num) := bGB.cell 0
    have bGB_1 : World.cell? w14 ⟨w6.heap.size, 1, none⟩ = some (.bool GA.live) := bGB.cell 1
    have bGB_2 : World.cell? w14 ⟨w6.heap.size, 2, none⟩ = some (.slice gb GA.cells.length gcb) := bGB.cell 2
    have bGB_l := bGB.lt
    have bXX_0 : World.cell? w14 ⟨w8.heap.size, 0, none⟩ = some (.slice sx EM.al.length cx) := bXX.cell 0
    have bXX_1 : World.cell? w14 ⟨w8.heap.size, 1, none⟩ = some (.int .i64 EM.next) := bXX.cell 1
    have bXX_l := bXX.lt
    have bYY_0 : World.cell? w14 ⟨w10.heap.size, 0, none⟩ = some (.slice sy EM.al.length cy) := bYY.cell 0
    have bYY_1 : World.cell? w14 ⟨w10.heap.size, 1, none⟩ = some (.int .i64 EM.next) := bYY.cell 1
    have bYY_l := bYY.lt
    have bUU_0 : World.cell? w14 ⟨w12.heap.size, 0, none⟩ = some (.slice su FM.al.length cu) := bUU.cell 0
    have bUU_1 : World.cell? w14 ⟨w12.heap.size, 1, none⟩ = some (.int .i64 FM.next) := bUU.cell 1
    have bUU_l := bUU.lt
    go_wp2_with fail
    clear bM_0 bM_1 bM_l
    clear bH_0 bH_1 bH_l
    clear bGA_0 bGA_1 bGA_2 bGA_l
    clear bGB_0 bGB_1 bGB_2 bGB_l
    clear bXX_0 bXX_1 bXX_l
    clear bYY_0 bYY_1 bYY_l
    clear bUU_0 bUU_1 bUU_l
    have bVV := Box.new w14 31 #[.slice sv FM.al.length cv, .int .i64 FM.next]
    have hx14 : Ext w14 (World.alloc w14 (.cells #[.slice sv FM.al.length cv, .int .i64 FM.next] 31)) := (Ext.refl _).alloc _
    obtain ⟨w14b, hw14⟩ : ∃ x, World.alloc w14 (.cells #[.slice sv FM.al.length cv, .int .i64 FM.next] 31) = x := ⟨_, rfl⟩
    rw [hw14] at bVV hx14 ⊢
    clear hw14
    replace bM := bM.ext hx14
    replace hL := hL.ext hx14
    replace hT := hT.ext hx14
    replace bH := bH.ext hx14
    replace hga := hga.ext hx14
    replace bGA := bGA.ext hx14
    replace hgb := hgb.ext hx14
    replace bGB := bGB.ext hx14
    replace hx := hx.ext hx14
    replace bXX := bXX.ext hx14
    replace hy := hy.ext hx14
    replace bYY := bYY.ext hx14
    replace hu := hu.ext hx14
    replace bUU := bUU.ext hx14
    replace hv := hv.ext hx14
    have hF14 := Ext.trans (hF13) hx14
    refine (ref26_SameAlloc hga hgb).mono ?_
    rintro e w16 ⟨rfl, hE15⟩
    replace bM := bM.ext hE15
    replace hL := hL.ext hE15
    replace hT := hT.ext hE15
    replace bH := bH.ext hE15
    replace hga := hga.ext hE15
    replace bGA := bGA.ext hE15
    replace hgb := hgb.ext hE15
    replace bGB := bGB.ext hE15
    replace hx := hx.ext hE15
    replace bXX := bXX.ext hE15
    replace hy := hy.ext hE15
    replace bYY := bYY.ext hE15
    replace hu := hu.ext hE15
    replace bUU := bUU.ext hE15
    replace hv := hv.ext hE15
    replace bVV := bVV.ext hE15
    have hF15 := Ext.trans (hF14) hE15
    have bM_0 : World.cell? w16 ⟨w.heap.size, 0, none⟩ = some (.slice a m.al.length cp) := bM.cell 0
    have bM_1 : World.cell? w16 ⟨w.heap.size, 1, none⟩ = some (.int .i64 m.next) := bM.cell 1
    have bM_l := bM.lt
    have bH_0 : World.cell? w16 ⟨w2.heap.size, 0, none⟩ = some (.slice ah m.al.length ch) := bH.cell 0
    have bH_1 : World.cell? w16 ⟨w2.heap.size, 1, none⟩ = some (.int .i64 m.next) := bH.cell 1
    have bH_l := bH.lt
    have bGA_0 : World.cell? w16 ⟨w4.heap.size, 0, none⟩ = some (.int .i64 GA.num) := bGA.cell 0
    have bGA_1 : World.cell? w16 ⟨w4.heap.size, 1, none⟩ = some (.bool GA.live) := bGA.cell 1
    have bGA_2 : World.cell? w16 ⟨w4.heap.size, 2, none⟩ = some (.slice ga GA.cells.length gca) := bGA.cell 2
    have bGA_l := bGA.lt
    have bGB_0 : World.cell? w16 ⟨w6.heap.size, 0, none⟩ = some (.int .i64 GA.num) := bGB.cell 0
    have bGB_1 : World.cell? w16 ⟨w6.heap.size, 1, none⟩ = some (.bool GA.live) := bGB.cell 1
    have bGB_2 : World.cell? w16 ⟨w6.heap.size, 2, none⟩ = some (.slice gb GA.cells.length gcb) := bGB.cell 2
    have bGB_l := bGB.lt
    have bXX_0 : World.cell? w16 ⟨w8.heap.size, 0, none⟩ = some (.slice sx EM.al.length cx) := bXX.cell 0
    have bXX_1 : World.cell? w16 ⟨w8.heap.size, 1, none⟩ = some (.int .i64 EM.next) := bXX.cell 1
    have bXX_l := bXX.lt
    have bYY_0 : World.cell? w16 ⟨w10.heap.size, 0, none⟩ = some (.slice sy EM.al.length cy) := bYY.cell 0
    have bYY_1 : World.cell? w16 ⟨w10.heap.size, 1, none⟩ = some (.int .i64 EM.next) := bYY.cell 1
    have bYY_l := bYY.lt
    have bUU_0 : World.cell? w16 ⟨w12.heap.size, 0, none⟩ = some (.slice su FM.al.length cu) := bUU.cell 0
    have bUU_1 : World.cell? w16 ⟨w12.heap.size, 1, none⟩ = some (.int .i64 FM.next) := bUU.cell 1
    have bUU_l := bUU.lt
    have bVV_0 : World.cell? w16 ⟨w14.heap.size, 0, none⟩ = some (.slice sv FM.al.length cv) := bVV.cell 0
    have bVV_1 : World.cell? w16 ⟨w14.heap.size, 1, none⟩ = some (.int .i64 FM.next) := bVV.cell 1
    have bVV_l := bVV.lt
    go_wp2_with fail
    clear bM_0 bM_1 bM_l
    clear bH_0 bH_1 bH_l
    clear bGA_0 bGA_1 bGA_2 bGA_l
    clear bGB_0 bGB_1 bGB_2 bGB_l
    clear bXX_0 bXX_1 bXX_l
    clear bYY_0 bYY_1 bYY_l
    clear bUU_0 bUU_1 bUU_l
    clear bVV_0 bVV_1 bVV_l
    refine (ref26_Same hx hy).mono ?_
    rintro e w17 ⟨rfl, hE16⟩
    replace bM := bM.ext hE16
    replace hL := hL.ext hE16
    replace hT := hT.ext hE16
    replace bH := bH.ext hE16
    replace hga := hga.ext hE16
    replace bGA := bGA.ext hE16
    replace hgb := hgb.ext hE16
    replace bGB := bGB.ext hE16
    replace hx := hx.ext hE16
    replace bXX := bXX.ext hE16
    replace hy := hy.ext hE16
    replace bYY := bYY.ext hE16
    replace hu := hu.ext hE16
    replace bUU := bUU.ext hE16
    replace hv := hv.ext hE16
    replace bVV := bVV.ext hE16
    have hF16 := Ext.trans (hF15) hE16
    have bM_0 : World.cell? w17 ⟨w.heap.size, 0, none⟩ = some (.slice a m.al.length cp) := bM.cell 0
    have bM_1 : World.cell? w17 ⟨w.heap.size, 1, none⟩ = some (.int .i64 m.next) := bM.cell 1
    have bM_l := bM.lt
    have bH_0 : World.cell? w17 ⟨w2.heap.size, 0, none⟩ = some (.slice ah m.al.length ch) := bH.cell 0
    have bH_1 : World.cell? w17 ⟨w2.heap.size, 1, none⟩ = some (.int .i64 m.next) := bH.cell 1
    have bH_l := bH.lt
    have bGA_0 : World.cell? w17 ⟨w4.heap.size, 0, none⟩ = some (.int .i64 GA.num) := bGA.cell 0
    have bGA_1 : World.cell? w17 ⟨w4.heap.size, 1, none⟩ = some (.bool GA.live) := bGA.cell 1
    have bGA_2 : World.cell? w17 ⟨w4.heap.size, 2, none⟩ = some (.slice ga GA.cells.length gca) := bGA.cell 2
    have bGA_l := bGA.lt
    have bGB_0 : World.cell? w17 ⟨w6.heap.size, 0, none⟩ = some (.int .i64 GA.num) := bGB.cell 0
    have bGB_1 : World.cell? w17 ⟨w6.heap.size, 1, none⟩ = some (.bool GA.live) := bGB.cell 1
    have bGB_2 : World.cell? w17 ⟨w6.heap.size, 2, none⟩ = some (.slice gb GA.cells.length gcb) := bGB.cell 2
    have bGB_l := bGB.lt
    have bXX_0 : World.cell? w17 ⟨w8.heap.size, 0, none⟩ = some (.slice sx EM.al.length cx) := bXX.cell 0
    have bXX_1 : World.cell? w17 ⟨w8.heap.size, 1, none⟩ = some (.int .i64 EM.next) := bXX.cell 1
    have bXX_l := bXX.lt
    have bYY_0 : World.cell? w17 ⟨w10.heap.size, 0, none⟩ = some (.slice sy EM.al.length cy) := bYY.cell 0
    have bYY_1 : World.cell? w17 ⟨w10.heap.size, 1, none⟩ = some (.int .i64 EM.next) := bYY.cell 1
    have bYY_l := bYY.lt
    have bUU_0 : World.cell? w17 ⟨w12.heap.size, 0, none⟩ = some (.slice su FM.al.length cu) := bUU.cell 0
    have bUU_1 : World.cell? w17 ⟨w12.heap.size, 1, none⟩ = some (.int .i64 FM.next) := bUU.cell 1
    have bUU_l := bUU.lt
    have bVV_0 : World.cell? w17 ⟨w14.heap.size, 0, none⟩ = some (.slice sv FM.al.length cv) := bVV.cell 0
    have bVV_1 : World.cell? w17 ⟨w14.heap.size, 1, none⟩ = some (.int .i64 FM.next) := bVV.cell 1
    have bVV_l := bVV.lt
    go_wp2_with fail
    clear bM_0 bM_1 bM_l
    clear bH_0 bH_1 bH_l
    clear bGA_0 bGA_1 bGA_2 bGA_l
    clear bGB_0 bGB_1 bGB_2 bGB_l
    clear bXX_0 bXX_1 bXX_l
    clear bYY_0 bYY_1 bYY_l
    clear bUU_0 bUU_1 bUU_l
    clear bVV_0 bVV_1 bVV_l
    refine (ref26_Same hu hv).mono ?_
    rintro e w18 ⟨rfl, hE17⟩
    replace bM := bM.ext hE17
    replace hL := hL.ext hE17
    replace hT := hT.ext hE17
    replace bH := bH.ext hE17
    replace hga := hga.ext hE17
    replace bGA := bGA.ext hE17
    replace hgb := hgb.ext hE17
    replace bGB := bGB.ext hE17
    replace hx := hx.ext hE17
    replace bXX := bXX.ext hE17
    replace hy := hy.ext hE17
    replace bYY := bYY.ext hE17
    replace hu := hu.ext hE17
    replace bUU := bUU.ext hE17
    replace hv := hv.ext hE17
    replace bVV := bVV.ext hE17
    have hF17 := Ext.trans (hF16) hE17
    have bM_0 : World.cell? w18 ⟨w.heap.size, 0, none⟩ = some (.slice a m.al.length cp) := bM.cell 0
    have bM_1 : World.cell? w18 ⟨w.heap.size, 1, none⟩ = some (.int .i64 m.next) := bM.cell 1
    have bM_l := bM.lt
    have bH_0 : World.cell? w18 ⟨w2.heap.size, 0, none⟩ = some (.slice ah m.al.length ch) := bH.cell 0
    have bH_1 : World.cell? w18 ⟨w2.heap.size, 1, none⟩ = some (.int .i64 m.next) := bH.cell 1
    have bH_l := bH.lt
    have bGA_0 : World.cell? w18 ⟨w4.heap.size, 0, none⟩ = some (.int .i64 GA.num) := bGA.cell 0
    have bGA_1 : World.cell? w18 ⟨w4.heap.size, 1, none⟩ = some (.bool GA.live) := bGA.cell 1
    have bGA_2 : World.cell? w18 ⟨w4.heap.size, 2, none⟩ = some (.slice ga GA.cells.length gca) := bGA.cell 2
    have bGA_l := bGA.lt
    have bGB_0 : World.cell? w18 ⟨w6.heap.size, 0, none⟩ = some (.int .i64 GA.num) := bGB.cell 0
    have bGB_1 : World.cell? w18 ⟨w6.heap.size, 1, none⟩ = some (.bool GA.live) := bGB.cell 1
    have bGB_2 : World.cell? w18 ⟨w6.heap.size, 2, none⟩ = some (.slice gb GA.cells.length gcb) := bGB.cell 2
    have bGB_l := bGB.lt
    have bXX_0 : World.cell? w18 ⟨w8.heap.size, 0, none⟩ = some (.slice sx EM.al.length cx) := bXX.cell 0
    have bXX_1 : World.cell? w18 ⟨w8.heap.size, 1, none⟩ = some (.int .i64 EM.next) := bXX.cell 1
    have bXX_l := bXX.lt
    have bYY_0 : World.cell? w18 ⟨w10.heap.size, 0, none⟩ = some (.slice sy EM.al.length cy) := bYY.cell 0
    have bYY_1 : World.cell? w18 ⟨w10.heap.size, 1, none⟩ = some (.int .i64 EM.next) := bYY.cell 1
    have bYY_l := bYY.lt
    have bUU_0 : World.cell? w18 ⟨w12.heap.size, 0, none⟩ = some (.slice su FM.al.length cu) := bUU.cell 0
    have bUU_1 : World.cell? w18 ⟨w12.heap.size, 1, none⟩ = some (.int .i64 FM.next) := bUU.cell 1
    have bUU_l := bUU.lt
    have bVV_0 : World.cell? w18 ⟨w14.heap.size, 0, none⟩ = some (.slice sv FM.al.length cv) := bVV.cell 0
    have bVV_1 : World.cell? w18 ⟨w14.heap.size, 1, none⟩ = some (.int .i64 FM.next) := bVV.cell 1
    have bVV_l := bVV.lt
    go_wp2_with fail
    clear bM_0 bM_1 bM_l
    clear bH_0 bH_1 bH_l
    clear bGA_0 bGA_1 bGA_2 bGA_l
    clear bGB_0 bGB_1 bGB_2 bGB_l
    clear bXX_0 bXX_1 bXX_l
    clear bYY_0 bYY_1 bYY_l
    clear bUU_0 bUU_1 bUU_l
    clear bVV_0 bVV_1 bVV_l
    refine (ref26_Same hL hT).mono ?_
    rintro e w19 ⟨rfl, hE18⟩
    replace bM := bM.ext hE18
    replace hL := hL.ext hE18
    replace hT := hT.ext hE18
    replace bH := bH.ext hE18
    replace hga := hga.ext hE18
    replace bGA := bGA.ext hE18
    replace hgb := hgb.ext hE18
    replace bGB := bGB.ext hE18
    replace hx := hx.ext hE18
    replace bXX := bXX.ext hE18
    replace hy := hy.ext hE18
    replace bYY := bYY.ext hE18
    replace hu := hu.ext hE18
    replace bUU := bUU.ext hE18
    replace hv := hv.ext hE18
    replace bVV := bVV.ext hE18
    have hF18 := Ext.trans (hF17) hE18
    go_wp2
    go_ret
    exact ⟨rfl, hF18⟩

  · have hg' := Lib.hid hg
    clear hg hG hE hFo
    go_enter Try.func6, Try.ntmps6
    go_wp2_with fail
    refine (ref26_Great hL).mono ?_
    rintro e w1 ⟨rfl, hE1⟩
    rw [hg'.out]
    go_wp2
    go_ret
    exact ⟨rfl, hF.trans hE1⟩

set_option maxRecDepth 100000 in
theorem allocsEnds_lifted (os : Os) (started : os.Started) (H : Type) (enc : TypeId × Value → H) :
    ReturnsInHanded {} Try.checked os 6 .any (Rows.allocsEndsSpec.pre6 enc Try.prog Try.f6 Rows.allocsEndsRow.domain false) (Rows.allocsEndsSpec.post enc Try.prog Try.f6 false true false false) := by
  refine returnsInHanded_of_change (C := Try.checked) Tryown started (by kernel_rfl) Try.func6
    (ChangeSpec.witness6 (enc := enc) (C := Try.checked) false ⟨#[], #[.agg #[.slice none 0 0, .int .i64 0], .int .i64 0], []⟩ 8 (by kernel_rfl) (by kernel_rfl) (by kernel_rfl) (by kernel_rfl)) ?_
  intro W base args ds gs before hval0 hW _ _
  have hval : ∀ (j : Nat) t v, Try.f6.params[j]? = some t → args[j]? = some v → Value.okWide Try.prog W .any base t v := hval0
  have hW' := hW
  obtain ⟨p, q, hA0, hV, rfl, hfz, hnd⟩ := hW
  have hA : DataW.TrodAll enc Try.prog W 0 (fun _ => true) true Try.f6.params.toList args.toList ds p := hA0
  rw [Try.params6] at hA hval
  obtain ⟨v0, vs0, d0, ds0, p0, q0, hargs, rfl, rfl, h0, r0⟩ := trodAll_cons hA
  obtain ⟨v1, vs1, d1, ds1, p1, q1, rfl, rfl, rfl, h1, r1⟩ := trodAll_cons r0
  obtain ⟨rfl, rfl, rfl⟩ := trodAll_nil r1
  obtain rfl : args = #[v0, v1] := by cases args; simp_all
  obtain ⟨x0, u0, rfl, k0, wf0⟩ := open_mem (hval 0 31 v0 rfl rfl) h0
  obtain ⟨x1, rfl, rfl, rfl, wf1⟩ := open_int Try.underlying3 (hval 1 3 v1 rfl rfl) h1
  refine (allocsEnds_walk x1 k0 wf0.1).mono fun e W' ⟨he, hb⟩ => ?_
  subst he
  exact ⟨_, rfl, post_law TrylaidOut (tb := 4) rfl Try.underlying4 (by kernel_rfl) rfl (fun ds hd => match ds, hd with | [a0, a1], _ => rfl) hW' hb⟩

theorem allocsEnds_holds : Rows.AllocsEndsSaid :=
  OpenClaim.holds_of_wide 6 Try.f6 rfl rfl rfl rfl rfl rfl rfl ⟨rfl, rfl, rfl, rfl, rfl⟩ rfl rfl rfl rfl rfl (by kernel_rfl) Try.func6 (by kernel_rfl)
    (of_decide_eq_true (by kernel_rfl)) (by unfold Func.isWrapper; first | (rw [if_pos (by decide +kernel)]; kernel_rfl) | (rw [if_neg (by decide +kernel)]; exact ⟨rfl, rfl⟩))
    (fun os started H enc _ => allocsEnds_lifted os started H enc)

end Go.Proofs.Ytcklnoefheanlaa
