/- The statement StacksOrder: for all arguments the call returns true. Condition: the laid permissions. (printed by gen/order33.py) -/
import Derived.Test.YtjfkfibhgilolaaDoorStkK
import Derived.Test.YtjfkfibhgilolaaDoorStkN
import Derived.Test.YtjfkfibhgilolaaDoorReadK
import Derived.Test.YtjfkfibhgilolaaDoorReadI
import Derived.Test.YtjfkfibhgilolaaDoorClose
import Derived.Test.YtjfkfibhgilolaaDoorDoor
namespace Go.Proofs.YtjfkfibhgilolaaDoor
set_option maxRecDepth 100000
open Go.ChangeShapes Go.WideShapes Go.ChangeAt Go.RowKit

set_option maxRecDepth 100000 in
set_option maxHeartbeats 12800000 in
theorem stacksOrder_walk {x : Stk} {run : List Int} {what : Int} {s v : Value} {w : World} (hp : Perms w) (hk : u8B what) (tag : Int) (hl : Sts w s x.cells) (hr : Nts w v run) :
    Calls Tryd.prog 8 #[.agg #[.int .i64 x.num, s], .int .u8 what, .int .i64 tag, v] w fun e w' => e = .returned (.bool true) ∧ Ext w w' := by
  obtain ⟨num, l⟩ := x
  obtain ⟨q, cp, rfl, -⟩ := Sts.form hl
  obtain ⟨a2, cp2, rfl, -⟩ := hr.form
  have hF : Ext w (w.alloc (.cells #[.int .i64 num, .slice q l.length cp] 56)) := (Ext.refl w).alloc _
  have bM := Box.new w 56 #[.int .i64 num, .slice q l.length cp]
  have hL : Sts _ _ l := hl.ext hF
  have hR : Nts _ _ run := hr.ext hF
  have hP : Perms _ := hp.ext hF
  replace hk := Lib.hid hk
  clear hl hr hp
  dsimp only at *
  obtain ⟨⟨⟨yn, yl⟩, u, er⟩, hU⟩ : ∃ A, useA ⟨num, l⟩ what 0 2 tag run = A := ⟨_, rfl⟩
  replace hU := Lib.hid hU
  obtain ⟨w0, hw0⟩ : ∃ z, (w.alloc (.cells #[.int .i64 num, .slice q l.length cp] 56)) = z := ⟨_, rfl⟩
  rw [hw0] at hF bM hL hR hP
  cases hg0 : greatK l
  rotate_left
  · have hg := Lib.hid hg0
    clear hg0
    go_enter Tryd.func8, Tryd.ntmps8
    go_wp2_with fail
    try clear hw0
    refine (law33_alive hP).mono ?_
    rintro e w1 ⟨rfl, hE0⟩
    replace bM := bM.ext hE0
    replace hL := hL.ext hE0
    replace hR := hR.ext hE0
    replace hP := hP.ext hE0
    have hF0 := Ext.trans (hF) hE0
    have bM_0 : World.cell? w1 ⟨w.heap.size, 0, none⟩ = some (.int .i64 num) := bM.cell 0
    have bM_1 : World.cell? w1 ⟨w.heap.size, 1, none⟩ = some (.slice q l.length cp) := bM.cell 1
    have bM_l := bM.lt
    go_wp2_with fail
    clear bM_0 bM_1 bM_l
    refine (ref33_Great hL).mono ?_
    rintro e w2 ⟨rfl, hE1⟩
    replace bM := bM.ext hE1
    replace hL := hL.ext hE1
    replace hR := hR.ext hE1
    replace hP := hP.ext hE1
    have hF1 := Ext.trans (hF0) hE1
    rw [hg.out]
    have bM_0 : World.cell? w2 ⟨w.heap.size, 0, none⟩ = some (.int .i64 num) := bM.cell 0
    have bM_1 : World.cell? w2 ⟨w.heap.size, 1, none⟩ = some (.slice q l.length cp) := bM.cell 1
    have bM_l := bM.lt
    go_wp2
    go_ret
    exact ⟨rfl, hF1⟩

  have hg := Lib.hid hg0
  clear hg0
  by_cases h2 : l.length = 2
  rotate_left
  · have t2 : ((l.length : Int) != 2) = true := by simp; omega
    have t2' : (l.length != 2) = true := by simp [h2]
    go_enter Tryd.func8, Tryd.ntmps8
    go_wp2_with fail
    try clear hw0
    refine (law33_alive hP).mono ?_
    rintro e w1 ⟨rfl, hE0⟩
    replace bM := bM.ext hE0
    replace hL := hL.ext hE0
    replace hR := hR.ext hE0
    replace hP := hP.ext hE0
    have hF0 := Ext.trans (hF) hE0
    have bM_0 : World.cell? w1 ⟨w.heap.size, 0, none⟩ = some (.int .i64 num) := bM.cell 0
    have bM_1 : World.cell? w1 ⟨w.heap.size, 1, none⟩ = some (.slice q l.length cp) := bM.cell 1
    have bM_l := bM.lt
    go_wp2_with fail
    clear bM_0 bM_1 bM_l
    refine (ref33_Great hL).mono ?_
    rintro e w2 ⟨rfl, hE1⟩
    replace bM := bM.ext hE1
    replace hL := hL.ext hE1
    replace hR := hR.ext hE1
    replace hP := hP.ext hE1
    have hF1 := Ext.trans (hF0) hE1
    rw [hg.out]
    have bM_0 : World.cell? w2 ⟨w.heap.size, 0, none⟩ = some (.int .i64 num) := bM.cell 0
    have bM_1 : World.cell? w2 ⟨w.heap.size, 1, none⟩ = some (.slice q l.length cp) := bM.cell 1
    have bM_l := bM.lt
    go_wp2
    go_ret
    exact ⟨rfl, hF1⟩

  have t2 : ((l.length : Int) != 2) = false := by rw [h2]; rfl
  have t2' : (l.length != 2) = false := by rw [h2]; rfl
  replace h2 := Lib.hid h2
  by_cases h5 : 50 < run.length
  · have t5 : decide (50 < run.length) = true := decide_eq_true h5
    have t5' : decide ((50 : Int) < (run.length : Int)) = true := decide_eq_true (by omega)
    go_enter Tryd.func8, Tryd.ntmps8
    go_wp2_with fail
    try clear hw0
    refine (law33_alive hP).mono ?_
    rintro e w1 ⟨rfl, hE0⟩
    replace bM := bM.ext hE0
    replace hL := hL.ext hE0
    replace hR := hR.ext hE0
    replace hP := hP.ext hE0
    have hF0 := Ext.trans (hF) hE0
    have bM_0 : World.cell? w1 ⟨w.heap.size, 0, none⟩ = some (.int .i64 num) := bM.cell 0
    have bM_1 : World.cell? w1 ⟨w.heap.size, 1, none⟩ = some (.slice q l.length cp) := bM.cell 1
    have bM_l := bM.lt
    go_wp2_with fail
    clear bM_0 bM_1 bM_l
    refine (ref33_Great hL).mono ?_
    rintro e w2 ⟨rfl, hE1⟩
    replace bM := bM.ext hE1
    replace hL := hL.ext hE1
    replace hR := hR.ext hE1
    replace hP := hP.ext hE1
    have hF1 := Ext.trans (hF0) hE1
    rw [hg.out]
    have bM_0 : World.cell? w2 ⟨w.heap.size, 0, none⟩ = some (.int .i64 num) := bM.cell 0
    have bM_1 : World.cell? w2 ⟨w.heap.size, 1, none⟩ = some (.slice q l.length cp) := bM.cell 1
    have bM_l := bM.lt
    go_wp2
    go_ret
    exact ⟨rfl, hF1⟩

  have t5 : decide (50 < run.length) = false := decide_eq_false h5
  have t5' : decide ((50 : Int) < (run.length : Int)) = false := decide_eq_false (by omega)
  replace h5 := Lib.hid h5
  by_cases hn : er = 0 ∧ u = 0
  rotate_left
  · have hc : (er != 0) = true ∨ ((er != 0) = false ∧ (u != 0) = true) := by simp; omega
    rcases hc with c1 | ⟨c1, c2⟩
    all_goals
      go_enter Tryd.func8, Tryd.ntmps8
      go_wp2_with fail
      try clear hw0
      refine (law33_alive hP).mono ?_
      rintro e w1 ⟨rfl, hE0⟩
      replace bM := bM.ext hE0
      replace hL := hL.ext hE0
      replace hR := hR.ext hE0
      replace hP := hP.ext hE0
      have hF0 := Ext.trans (hF) hE0
      have bM_0 : World.cell? w1 ⟨w.heap.size, 0, none⟩ = some (.int .i64 num) := bM.cell 0
      have bM_1 : World.cell? w1 ⟨w.heap.size, 1, none⟩ = some (.slice q l.length cp) := bM.cell 1
      have bM_l := bM.lt
      go_wp2_with fail
      clear bM_0 bM_1 bM_l
      refine (ref33_Great hL).mono ?_
      rintro e w2 ⟨rfl, hE1⟩
      replace bM := bM.ext hE1
      replace hL := hL.ext hE1
      replace hR := hR.ext hE1
      replace hP := hP.ext hE1
      have hF1 := Ext.trans (hF0) hE1
      rw [hg.out]
      have bM_0 : World.cell? w2 ⟨w.heap.size, 0, none⟩ = some (.int .i64 num) := bM.cell 0
      have bM_1 : World.cell? w2 ⟨w.heap.size, 1, none⟩ = some (.slice q l.length cp) := bM.cell 1
      have bM_l := bM.lt
      go_wp2_with fail
      clear bM_0 bM_1 bM_l
      refine (law33_use hP hk.out tag hL hR).mono ?_
      rintro e w3 ⟨vhy, vshy, rfl, ohy, hE2⟩
      replace bM := bM.ext hE2
      replace hL := hL.ext hE2
      replace hR := hR.ext hE2
      replace hP := hP.ext hE2
      have hF2 := Ext.trans (hF1) hE2
      rw [hU.out] at ohy ⊢
      dsimp only at ohy ⊢
      have hy : Sts _ _ yl := ohy.sts
      obtain ⟨ahy, chy, rfl, -⟩ := hy.form
      clear ohy
      have bM_0 : World.cell? w3 ⟨w.heap.size, 0, none⟩ = some (.int .i64 num) := bM.cell 0
      have bM_1 : World.cell? w3 ⟨w.heap.size, 1, none⟩ = some (.slice q l.length cp) := bM.cell 1
      have bM_l := bM.lt
      go_wp2
      go_ret
      exact ⟨rfl, hF2.trans ((Ext.refl _).alloc _)⟩

  obtain ⟨rfl, rfl⟩ := hn
  obtain ⟨rfl, hck, hall⟩ := order_all h2.out hU.out
  replace hck := Lib.hid hck
  replace hall := Lib.hid hall
  go_enter Tryd.func8, Tryd.ntmps8
  go_wp2_with fail
  try clear hw0
  refine (law33_alive hP).mono ?_
  rintro e w1 ⟨rfl, hE0⟩
  replace bM := bM.ext hE0
  replace hL := hL.ext hE0
  replace hR := hR.ext hE0
  replace hP := hP.ext hE0
  have hF0 := Ext.trans (hF) hE0
  have bM_0 : World.cell? w1 ⟨w.heap.size, 0, none⟩ = some (.int .i64 num) := bM.cell 0
  have bM_1 : World.cell? w1 ⟨w.heap.size, 1, none⟩ = some (.slice q l.length cp) := bM.cell 1
  have bM_l := bM.lt
  go_wp2_with fail
  clear bM_0 bM_1 bM_l
  refine (ref33_Great hL).mono ?_
  rintro e w2 ⟨rfl, hE1⟩
  replace bM := bM.ext hE1
  replace hL := hL.ext hE1
  replace hR := hR.ext hE1
  replace hP := hP.ext hE1
  have hF1 := Ext.trans (hF0) hE1
  rw [hg.out]
  have bM_0 : World.cell? w2 ⟨w.heap.size, 0, none⟩ = some (.int .i64 num) := bM.cell 0
  have bM_1 : World.cell? w2 ⟨w.heap.size, 1, none⟩ = some (.slice q l.length cp) := bM.cell 1
  have bM_l := bM.lt
  go_wp2_with fail
  clear bM_0 bM_1 bM_l
  refine (law33_use hP hk.out tag hL hR).mono ?_
  rintro e w3 ⟨vhy, vshy, rfl, ohy, hE2⟩
  replace bM := bM.ext hE2
  replace hL := hL.ext hE2
  replace hR := hR.ext hE2
  replace hP := hP.ext hE2
  have hF2 := Ext.trans (hF1) hE2
  rw [hU.out] at ohy ⊢
  dsimp only at ohy ⊢
  have hy : Sts _ _ yl := ohy.sts
  obtain ⟨ahy, chy, rfl, -⟩ := hy.form
  clear ohy
  have bM_0 : World.cell? w3 ⟨w.heap.size, 0, none⟩ = some (.int .i64 num) := bM.cell 0
  have bM_1 : World.cell? w3 ⟨w.heap.size, 1, none⟩ = some (.slice q l.length cp) := bM.cell 1
  have bM_l := bM.lt
  go_wp2
  clear bM_0 bM_1 bM_l
  have bhy := Box.new w3 56 #[.int .i64 num, .slice ahy yl.length chy]
  have hx3 : Ext w3 (World.alloc w3 (.cells #[.int .i64 num, .slice ahy yl.length chy] 56)) := (Ext.refl _).alloc _
  obtain ⟨w3b, hw3⟩ : ∃ x, World.alloc w3 (.cells #[.int .i64 num, .slice ahy yl.length chy] 56) = x := ⟨_, rfl⟩
  rw [hw3] at bhy hx3 ⊢
  clear hw3
  replace bM := bM.ext hx3
  replace hL := hL.ext hx3
  replace hR := hR.ext hx3
  replace hP := hP.ext hx3
  replace hy := hy.ext hx3
  have hF3 := Ext.trans (hF2) hx3
  go_loopw [13] (fun iv wr => ∃ i : Nat, i ≤ 2 ∧ iv = .int .i64 i ∧ Ext w3b wr) (fun iv _ => 2 - (intOf iv).toNat)
  case atStart => exact ⟨0, by omega, rfl, Ext.refl _⟩
  case round =>
    obtain ⟨i, hi, rfl, hQ⟩ := hrel
    replace bM := bM.ext hQ
    replace bhy := bhy.ext hQ
    replace hL := hL.ext hQ
    replace hR := hR.ext hQ
    replace hP := hP.ext hQ
    replace hy := hy.ext hQ
    by_cases hlt : i < 2
    · have hlt' : decide ((i : Int) < 2) = true := decide_eq_true (by omega)
      have hw1 : IntKind.i64.wrap ((1 : Int) - (i : Int)) = (1 : Int) - (i : Int) := IntWalk.i64_in _ (by omega)
      obtain ⟨M, hA, hB⟩ := hall.out i hlt
      replace hA := Lib.hid hA
      replace hB := Lib.hid hB
      replace hlt := Lib.hid hlt
      have bM_0 : World.cell? wr ⟨w.heap.size, 0, none⟩ = some (.int .i64 num) := bM.cell 0
      have bM_1 : World.cell? wr ⟨w.heap.size, 1, none⟩ = some (.slice q l.length cp) := bM.cell 1
      have bM_l := bM.lt
      have bhy_0 : World.cell? wr ⟨w3.heap.size, 0, none⟩ = some (.int .i64 num) := bhy.cell 0
      have bhy_1 : World.cell? wr ⟨w3.heap.size, 1, none⟩ = some (.slice ahy yl.length chy) := bhy.cell 1
      have bhy_l := bhy.lt
      go_wp2_with fail
      clear bM_0 bM_1 bM_l
      clear bhy_0 bhy_1 bhy_l
      refine (law33_use hP hk.out tag hL hR).mono ?_
      rintro e w61 ⟨vha, vsha, rfl, oha, hE60⟩
      replace bM := bM.ext hE60
      replace hL := hL.ext hE60
      replace hR := hR.ext hE60
      replace hP := hP.ext hE60
      replace bhy := bhy.ext hE60
      replace hy := hy.ext hE60
      have hF60 := Ext.trans (Ext.refl wr) hE60
      rw [hA.out] at oha ⊢
      dsimp only at oha ⊢
      have ha : Sts _ _ M := oha.sts
      obtain ⟨aha, cha, rfl, -⟩ := ha.form
      clear oha
      have bM_0 : World.cell? w61 ⟨w.heap.size, 0, none⟩ = some (.int .i64 num) := bM.cell 0
      have bM_1 : World.cell? w61 ⟨w.heap.size, 1, none⟩ = some (.slice q l.length cp) := bM.cell 1
      have bM_l := bM.lt
      have bhy_0 : World.cell? w61 ⟨w3.heap.size, 0, none⟩ = some (.int .i64 num) := bhy.cell 0
      have bhy_1 : World.cell? w61 ⟨w3.heap.size, 1, none⟩ = some (.slice ahy yl.length chy) := bhy.cell 1
      have bhy_l := bhy.lt
      go_wp2_with fail
      clear bM_0 bM_1 bM_l
      clear bhy_0 bhy_1 bhy_l
      have bha := Box.new w61 56 #[.int .i64 num, .slice aha M.length cha]
      have hx61 : Ext w61 (World.alloc w61 (.cells #[.int .i64 num, .slice aha M.length cha] 56)) := (Ext.refl _).alloc _
      obtain ⟨w61b, hw61⟩ : ∃ x, World.alloc w61 (.cells #[.int .i64 num, .slice aha M.length cha] 56) = x := ⟨_, rfl⟩
      rw [hw61] at bha hx61 ⊢
      clear hw61
      replace bM := bM.ext hx61
      replace hL := hL.ext hx61
      replace hR := hR.ext hx61
      replace hP := hP.ext hx61
      replace bhy := bhy.ext hx61
      replace hy := hy.ext hx61
      replace ha := ha.ext hx61
      have hF61 := Ext.trans (hF60) hx61
      refine (law33_use hP hk.out tag ha hR).mono ?_
      rintro e w63 ⟨vhb, vshb, rfl, ohb, hE62⟩
      replace bM := bM.ext hE62
      replace hL := hL.ext hE62
      replace hR := hR.ext hE62
      replace hP := hP.ext hE62
      replace bhy := bhy.ext hE62
      replace hy := hy.ext hE62
      replace ha := ha.ext hE62
      replace bha := bha.ext hE62
      have hF62 := Ext.trans (hF61) hE62
      rw [hB.out] at ohb ⊢
      dsimp only at ohb ⊢
      have hb : Sts _ _ yl := ohb.sts
      obtain ⟨ahb, chb, rfl, -⟩ := hb.form
      clear ohb
      have bM_0 : World.cell? w63 ⟨w.heap.size, 0, none⟩ = some (.int .i64 num) := bM.cell 0
      have bM_1 : World.cell? w63 ⟨w.heap.size, 1, none⟩ = some (.slice q l.length cp) := bM.cell 1
      have bM_l := bM.lt
      have bhy_0 : World.cell? w63 ⟨w3.heap.size, 0, none⟩ = some (.int .i64 num) := bhy.cell 0
      have bhy_1 : World.cell? w63 ⟨w3.heap.size, 1, none⟩ = some (.slice ahy yl.length chy) := bhy.cell 1
      have bhy_l := bhy.lt
      have bha_0 : World.cell? w63 ⟨w61.heap.size, 0, none⟩ = some (.int .i64 num) := bha.cell 0
      have bha_1 : World.cell? w63 ⟨w61.heap.size, 1, none⟩ = some (.slice aha M.length cha) := bha.cell 1
      have bha_l := bha.lt
      go_wp2_with fail
      clear bM_0 bM_1 bM_l
      clear bhy_0 bhy_1 bhy_l
      clear bha_0 bha_1 bha_l
      have bhb := Box.new w63 56 #[.int .i64 num, .slice ahb yl.length chb]
      have hx63 : Ext w63 (World.alloc w63 (.cells #[.int .i64 num, .slice ahb yl.length chb] 56)) := (Ext.refl _).alloc _
      obtain ⟨w63b, hw63⟩ : ∃ x, World.alloc w63 (.cells #[.int .i64 num, .slice ahb yl.length chb] 56) = x := ⟨_, rfl⟩
      rw [hw63] at bhb hx63 ⊢
      clear hw63
      replace bM := bM.ext hx63
      replace hL := hL.ext hx63
      replace hR := hR.ext hx63
      replace hP := hP.ext hx63
      replace bhy := bhy.ext hx63
      replace hy := hy.ext hx63
      replace ha := ha.ext hx63
      replace bha := bha.ext hx63
      replace hb := hb.ext hx63
      have hF63 := Ext.trans (hF62) hx63
      refine (ref33_Same hb hy).mono ?_
      rintro e w65 ⟨rfl, hE64⟩
      replace bM := bM.ext hE64
      replace hL := hL.ext hE64
      replace hR := hR.ext hE64
      replace hP := hP.ext hE64
      replace bhy := bhy.ext hE64
      replace hy := hy.ext hE64
      replace ha := ha.ext hE64
      replace bha := bha.ext hE64
      replace hb := hb.ext hE64
      replace bhb := bhb.ext hE64
      have hF64 := Ext.trans (hF63) hE64
      have bM_0 : World.cell? w65 ⟨w.heap.size, 0, none⟩ = some (.int .i64 num) := bM.cell 0
      have bM_1 : World.cell? w65 ⟨w.heap.size, 1, none⟩ = some (.slice q l.length cp) := bM.cell 1
      have bM_l := bM.lt
      have bhy_0 : World.cell? w65 ⟨w3.heap.size, 0, none⟩ = some (.int .i64 num) := bhy.cell 0
      have bhy_1 : World.cell? w65 ⟨w3.heap.size, 1, none⟩ = some (.slice ahy yl.length chy) := bhy.cell 1
      have bhy_l := bhy.lt
      have bha_0 : World.cell? w65 ⟨w61.heap.size, 0, none⟩ = some (.int .i64 num) := bha.cell 0
      have bha_1 : World.cell? w65 ⟨w61.heap.size, 1, none⟩ = some (.slice aha M.length cha) := bha.cell 1
      have bha_l := bha.lt
      have bhb_0 : World.cell? w65 ⟨w63.heap.size, 0, none⟩ = some (.int .i64 num) := bhb.cell 0
      have bhb_1 : World.cell? w65 ⟨w63.heap.size, 1, none⟩ = some (.slice ahb yl.length chb) := bhb.cell 1
      have bhb_l := bhb.lt
      go_wp2
      go_roundw
      case rel => exact ⟨i + 1, (by have := hlt.out; omega), by go_num, hQ.trans hF64⟩
      case measure => have := hlt.out; simp [intOf]; omega
    · have hlt' : decide ((i : Int) < 2) = false := decide_eq_false (by omega)
      clear hlt
      have bM_0 : World.cell? wr ⟨w.heap.size, 0, none⟩ = some (.int .i64 num) := bM.cell 0
      have bM_1 : World.cell? wr ⟨w.heap.size, 1, none⟩ = some (.slice q l.length cp) := bM.cell 1
      have bM_l := bM.lt
      have bhy_0 : World.cell? wr ⟨w3.heap.size, 0, none⟩ = some (.int .i64 num) := bhy.cell 0
      have bhy_1 : World.cell? wr ⟨w3.heap.size, 1, none⟩ = some (.slice ahy yl.length chy) := bhy.cell 1
      have bhy_l := bhy.lt
      go_wp2_with fail
      clear bM_0 bM_1 bM_l
      clear bhy_0 bhy_1 bhy_l
      refine (stacks_Check hy).mono ?_
      rintro e w81 ⟨rfl, hE80⟩
      replace bM := bM.ext hE80
      replace bhy := bhy.ext hE80
      replace hy := hy.ext hE80
      have hF80 := Ext.trans (Ext.refl wr) hE80
      rw [hck.out]
      have bM_0 : World.cell? w81 ⟨w.heap.size, 0, none⟩ = some (.int .i64 num) := bM.cell 0
      have bM_1 : World.cell? w81 ⟨w.heap.size, 1, none⟩ = some (.slice q l.length cp) := bM.cell 1
      have bM_l := bM.lt
      have bhy_0 : World.cell? w81 ⟨w3.heap.size, 0, none⟩ = some (.int .i64 num) := bhy.cell 0
      have bhy_1 : World.cell? w81 ⟨w3.heap.size, 1, none⟩ = some (.slice ahy yl.length chy) := bhy.cell 1
      have bhy_l := bhy.lt
      go_wp2
      go_ret
      exact ⟨rfl, hF3.trans (hQ.trans hF80)⟩

set_option maxRecDepth 100000 in
theorem stacksOrder_contract (H : Type) (enc : TypeId × Value → H) (W : World) (base : Nat) (args : Array Value) (ds gs : List (DataW H)) (before : List MemPlace)
    (hval0 : ∀ (j : Nat) t v, Tryd.f8.params[j]? = some t → args[j]? = some v → Value.okWide Tryd.prog W .any base t v)
    (hW : DataW.Whole enc Tryd.prog Tryd.f8.params.toList Rows.stacksOrderSpec.vars false W args.toList ds gs before) (hL : laidMetH Tryd.prog Rows.stacksOrderRow.laid W) :
    Calls Tryd.prog 8 args W fun e W' => ∃ v, e = .returned v ∧ Rows.stacksOrderSpec.post enc Tryd.prog Tryd.f8 false true false false W args v W' := by
  have hval : ∀ (j : Nat) t v, Tryd.f8.params[j]? = some t → args[j]? = some v → Value.okWide Tryd.prog W .any base t v := hval0
  have hW' := hW
  obtain ⟨p, q, hA0, hV, rfl, hfz, hnd⟩ := hW
  have hA : DataW.TrodAll enc Tryd.prog W 0 (fun _ => true) true Tryd.f8.params.toList args.toList ds p := hA0
  rw [Tryd.params8] at hA hval
  obtain ⟨v0, vs0, d0, ds0, p0, q0, hargs, rfl, rfl, h0, r0⟩ := trodAll_cons hA
  obtain ⟨v1, vs1, d1, ds1, p1, q1, rfl, rfl, rfl, h1, r1⟩ := trodAll_cons r0
  obtain ⟨v2, vs2, d2, ds2, p2, q2, rfl, rfl, rfl, h2, r2⟩ := trodAll_cons r1
  obtain ⟨v3, vs3, d3, ds3, p3, q3, rfl, rfl, rfl, h3, r3⟩ := trodAll_cons r2
  obtain ⟨rfl, rfl, rfl⟩ := trodAll_nil r3
  obtain rfl : args = #[v0, v1, v2, v3] := by cases args; simp_all
  obtain ⟨x0, u0, rfl, k0, wf0⟩ := open_stacks (hval 0 56 v0 rfl rfl) h0
  obtain ⟨x1, rfl, rfl, rfl, wf1⟩ := open_int Tryd.underlying5 (hval 1 5 v1 rfl rfl) h1
  obtain ⟨x2, rfl, rfl, rfl, wf2⟩ := open_int Tryd.underlying3 (hval 2 3 v2 rfl rfl) h2
  obtain ⟨x3, k3, wf3⟩ := open_ints' Tryd.underlying37 (hval 3 37 v3 rfl rfl) h3
  refine (stacksOrder_walk (perms_of_laid hL) (u8B_of wf1) x2 k0 k3).mono fun e W' ⟨he, hb⟩ => ?_
  subst he
  exact ⟨_, rfl, post_law TrydlaidOut (tb := 4) rfl Tryd.underlying4 (by kernel_rfl) rfl (fun ds hd => match ds, hd with | [a0, a1, a2, a3], _ => rfl) hW' hb⟩
theorem stacksOrder_met (os : Os) : laidMet Tryd.prog Rows.stacksOrderRow.laid ((doorWorld os).forCall (fun _ _ => 0) ⟨#[], #[.agg #[.int .i64 0, .slice none 0 0], .int .u8 0, .int .i64 0, .slice none 0 0], []⟩).memory :=
  laidMet_of_run' 8 (by kernel_rfl) (by kernel_rfl)
theorem stacksOrder_reads (os : Os) {H : Type} (enc : TypeId × Value → H) : ∃ places, DataW.whole enc Tryd.prog ((doorWorld os).forCall (fun _ _ => 0) ⟨#[], #[.agg #[.int .i64 0, .slice none 0 0], .int .u8 0, .int .i64 0, .slice none 0 0], []⟩).memory Tryd.f8.params.toList Rows.stacksOrderSpec.vars false (#[.agg #[.int .i64 0, .slice none 0 0], .int .u8 0, .int .i64 0, .slice none 0 0] : Array Value).toList 8 = some ([.agg [.lit (.int .i64 0), .nil], .lit (.int .u8 0), .lit (.int .i64 0), .nil], [], places) :=
  ⟨[], by kernel_rfl⟩
set_option maxRecDepth 100000 in
theorem stacksOrder_lifted (os : Os) (started : os.Started) (H : Type) (enc : TypeId × Value → H) (F : Stop.Interp) :
    ReturnsInHanded {} Tryd.checked os 8 .any ((OpenSpec.ofChange Rows.stacksOrderSpec).preRow enc Tryd.prog Tryd.f8 Rows.stacksOrderRow.domain false Rows.stacksOrderRow.laid) (((OpenSpec.ofChange Rows.stacksOrderSpec).at F).post enc Tryd.prog Tryd.f8 false true false false) := by
  obtain ⟨places, hx⟩ := stacksOrder_reads os enc
  refine returnsInHanded_of_row (C := Tryd.checked) (s := OpenSpec.ofChange Rows.stacksOrderSpec) Trydown started (by kernel_rfl) Tryd.func8
    (witness_row_at (enc := enc) (C := Tryd.checked) false (doorWorld os) #[.agg #[.int .i64 0, .slice none 0 0], .int .u8 0, .int .i64 0, .slice none 0 0] rfl (by kernel_rfl) (by kernel_rfl) (by kernel_rfl)
      (OpenSpec.preRow_of_cond 8 hx (by kernel_rfl) (fun k hk => by cases hk) (by kernel_rfl) (stacksOrder_met os))) ?_
  intro W base args ds gs before hval hW _ _ _ hL _ _
  exact stacksOrder_contract H enc W base args ds gs before hval hW hL
theorem stacksOrder_said : Rows.StacksOrderSaid :=
  OpenClaim.holds_of_cond 8 Tryd.f8 rfl rfl rfl rfl rfl rfl rfl ⟨rfl, rfl, rfl, rfl, rfl⟩ rfl rfl rfl rfl rfl (by kernel_rfl) Tryd.func8 (by kernel_rfl)
    (of_decide_eq_true (by kernel_rfl)) (by unfold Func.isWrapper; first | (rw [if_pos (by decide +kernel)]; kernel_rfl) | (rw [if_neg (by decide +kernel)]; exact ⟨rfl, rfl⟩))
    (fun os started H enc _ F => by rw [OpenClaim.pre_eq_preRow]; exact stacksOrder_lifted os started H enc F)
theorem stacksOrder_plain (f : FuncId) (fn : Func) (hf : Tryd.pinned.checked.prog.funcNamed "pawnshop/pawnshoplaw33.StacksOrder" = some f) (hfn : Tryd.pinned.checked.prog.funcs[f]? = some fn) :
    false = Tryd.pinned.checked.prog.looks [] ∧ ∀ (j : Nat) t, fn.params[j]? = some t → Tryd.pinned.checked.prog.wantsStandIn t = false := by
  obtain rfl : f = 8 := Option.some.inj ((show Tryd.prog.funcNamed "pawnshop/pawnshoplaw33.StacksOrder" = some 8 by kernel_rfl).symm.trans hf) |>.symm
  obtain rfl : fn = Tryd.f8 := (Option.some.inj (Tryd.func8.symm.trans hfn)).symm
  refine ⟨by kernel_rfl, fun j t ht => ?_⟩
  have hm : t ∈ Tryd.f8.params.toList := by simpa using Array.mem_of_getElem? ht
  have hall : (Tryd.f8.params.toList.all fun u => !Tryd.prog.wantsStandIn u) = true := by kernel_rfl
  exact (show Tryd.prog.wantsStandIn t = false by simpa using List.all_eq_true.1 hall t hm)
theorem stacksOrder_card : Rows.StacksOrderCardSaid :=
  Claim7.holds_tied_plain_at .later [] _ _ _ _ stacksOrder_said (fun _ h => by cases h) (by kernel_rfl) (fun _ h => by cases h) stacksOrder_row_tie rfl ⟨rfl, rfl⟩ (by kernel_rfl) rfl stacksOrder_plain (by kernel_rfl)

end Go.Proofs.YtjfkfibhgilolaaDoor
