/- The statement StacksCells: for all arguments the call returns true. Condition: the laid permissions. (printed by gen/cells33b.py) -/
import Derived.Test.YtjfkfibhgilolaaDoorStkK
import Derived.Test.YtjfkfibhgilolaaDoorStkO
import Derived.Test.YtjfkfibhgilolaaDoorReadK
import Derived.Test.YtjfkfibhgilolaaDoorReadI
import Derived.Test.YtjfkfibhgilolaaDoorClose
import Derived.Test.YtjfkfibhgilolaaDoorDoor
namespace Go.Proofs.YtjfkfibhgilolaaDoor
set_option maxRecDepth 100000
open Go.ChangeShapes Go.WideShapes Go.ChangeAt Go.RowKit

set_option maxRecDepth 100000 in
set_option maxHeartbeats 12800000 in
theorem stacksCells_walk {x : Stk} {run : List Int} {what a n : Int} {s v : Value} {w : World} (hp : Perms w) (hk : u8B what) (tag : Int) (hl : Sts w s x.cells) (hr : Nts w v run) :
    Calls Tryd.prog 7 #[.agg #[.int .i64 x.num, s], .int .u8 what, .int .i64 a, .int .i64 n, .int .i64 tag, v] w fun e w' => e = .returned (.bool true) ∧ Ext w w' := by
  obtain ⟨num, l⟩ := x
  obtain ⟨q, cp, rfl, -⟩ := Sts.form hl
  obtain ⟨a2, cp2, rfl, -⟩ := hr.form
  have hF : Ext w (w.alloc (.cells #[.int .i64 num, .slice q l.length cp] 56)) := (Ext.refl w).alloc _
  have bM := Box.new w 56 #[.int .i64 num, .slice q l.length cp]
  have hL : Sts _ _ l := hl.ext hF
  have hR : Nts _ _ run := hr.ext hF
  have hP : Perms _ := hp.ext hF
  replace hk := Lib.hid hk
  clear hl hr hp
  dsimp only at *
  obtain ⟨⟨⟨yn, yl⟩, why, er⟩, hU⟩ : ∃ B, useA ⟨num, l⟩ what a n tag run = B := ⟨_, rfl⟩
  obtain ⟨w0, hw0⟩ : ∃ z, (w.alloc (.cells #[.int .i64 num, .slice q l.length cp] 56)) = z := ⟨_, rfl⟩
  rw [hw0] at hF bM hL hR hP
  cases hg0 : greatK l
  rotate_left
  · have hg := Lib.hid hg0
    clear hg0
    go_enter Tryd.func7, Tryd.ntmps7
    go_wp2_with fail
    try clear hw0
    refine (law33_alive hP).mono ?_
    rintro e w1 ⟨rfl, hE0⟩
    replace bM := bM.ext hE0
    replace hL := hL.ext hE0
    replace hR := hR.ext hE0
    replace hP := hP.ext hE0
    have hF0 := Ext.trans (hF) hE0
    have bM_0 : World.cell? w1 ⟨w.heap.size, 0, none⟩ = some (.int .i64 num) := bM.cell 0
    have bM_1 : World.cell? w1 ⟨w.heap.size, 1, none⟩ = some (.slice q l.length cp) := bM.cell 1
    have bM_l := bM.lt
    go_wp2_with fail
    clear bM_0 bM_1 bM_l
    refine (ref33_Great hL).mono ?_
    rintro e w2 ⟨rfl, hE1⟩
    replace bM := bM.ext hE1
    replace hL := hL.ext hE1
    replace hR := hR.ext hE1
    replace hP := hP.ext hE1
    have hF1 := Ext.trans (hF0) hE1
    rw [hg.out]
    have bM_0 : World.cell? w2 ⟨w.heap.size, 0, none⟩ = some (.int .i64 num) := bM.cell 0
    have bM_1 : World.cell? w2 ⟨w.heap.size, 1, none⟩ = some (.slice q l.length cp) := bM.cell 1
    have bM_l := bM.lt
    go_wp2
    go_ret
    exact ⟨rfl, hF1⟩

  have hg := Lib.hid hg0
  clear hg0
  by_cases h5 : 50 < run.length
  · have t5 : decide (50 < run.length) = true := decide_eq_true h5
    have t5' : decide ((50 : Int) < (run.length : Int)) = true := decide_eq_true (by omega)
    go_enter Tryd.func7, Tryd.ntmps7
    go_wp2_with fail
    try clear hw0
    refine (law33_alive hP).mono ?_
    rintro e w1 ⟨rfl, hE0⟩
    replace bM := bM.ext hE0
    replace hL := hL.ext hE0
    replace hR := hR.ext hE0
    replace hP := hP.ext hE0
    have hF0 := Ext.trans (hF) hE0
    have bM_0 : World.cell? w1 ⟨w.heap.size, 0, none⟩ = some (.int .i64 num) := bM.cell 0
    have bM_1 : World.cell? w1 ⟨w.heap.size, 1, none⟩ = some (.slice q l.length cp) := bM.cell 1
    have bM_l := bM.lt
    go_wp2_with fail
    clear bM_0 bM_1 bM_l
    refine (ref33_Great hL).mono ?_
    rintro e w2 ⟨rfl, hE1⟩
    replace bM := bM.ext hE1
    replace hL := hL.ext hE1
    replace hR := hR.ext hE1
    replace hP := hP.ext hE1
    have hF1 := Ext.trans (hF0) hE1
    rw [hg.out]
    have bM_0 : World.cell? w2 ⟨w.heap.size, 0, none⟩ = some (.int .i64 num) := bM.cell 0
    have bM_1 : World.cell? w2 ⟨w.heap.size, 1, none⟩ = some (.slice q l.length cp) := bM.cell 1
    have bM_l := bM.lt
    go_wp2
    go_ret
    exact ⟨rfl, hF1⟩

  have t5 : decide (50 < run.length) = false := decide_eq_false h5
  have t5' : decide ((50 : Int) < (run.length : Int)) = false := decide_eq_false (by omega)
  replace h5 := Lib.hid h5
  by_cases he : er = 0
  rotate_left
  · have c1 : (er != 0) = true := by simp [he]
    have hz := useA_zero (x := ⟨num, l⟩) (what := what) (a := a) (n := n) (tag := tag) (run := run) (by rw [hU]; exact he)
    rw [hU] at hz
    obtain ⟨hz1, rfl⟩ := hz
    cases hz1
    replace hU := Lib.hid hU
    clear he
    go_enter Tryd.func7, Tryd.ntmps7
    go_wp2_with fail
    try clear hw0
    refine (law33_alive hP).mono ?_
    rintro e w1 ⟨rfl, hE0⟩
    replace bM := bM.ext hE0
    replace hL := hL.ext hE0
    replace hR := hR.ext hE0
    replace hP := hP.ext hE0
    have hF0 := Ext.trans (hF) hE0
    have bM_0 : World.cell? w1 ⟨w.heap.size, 0, none⟩ = some (.int .i64 num) := bM.cell 0
    have bM_1 : World.cell? w1 ⟨w.heap.size, 1, none⟩ = some (.slice q l.length cp) := bM.cell 1
    have bM_l := bM.lt
    go_wp2_with fail
    clear bM_0 bM_1 bM_l
    refine (ref33_Great hL).mono ?_
    rintro e w2 ⟨rfl, hE1⟩
    replace bM := bM.ext hE1
    replace hL := hL.ext hE1
    replace hR := hR.ext hE1
    replace hP := hP.ext hE1
    have hF1 := Ext.trans (hF0) hE1
    rw [hg.out]
    have bM_0 : World.cell? w2 ⟨w.heap.size, 0, none⟩ = some (.int .i64 num) := bM.cell 0
    have bM_1 : World.cell? w2 ⟨w.heap.size, 1, none⟩ = some (.slice q l.length cp) := bM.cell 1
    have bM_l := bM.lt
    go_wp2_with fail
    clear bM_0 bM_1 bM_l
    refine (law33_use hP hk.out tag hL hR).mono ?_
    rintro e w3 ⟨vhy, vshy, rfl, ohy, hE2⟩
    replace bM := bM.ext hE2
    replace hL := hL.ext hE2
    replace hR := hR.ext hE2
    replace hP := hP.ext hE2
    have hF2 := Ext.trans (hF1) hE2
    rw [hU.out] at ohy ⊢
    dsimp only at ohy ⊢
    have hy : Sts _ _ [] := ohy.sts
    obtain ⟨ahy, chy, rfl, -⟩ := hy.form
    clear ohy
    have bM_0 : World.cell? w3 ⟨w.heap.size, 0, none⟩ = some (.int .i64 num) := bM.cell 0
    have bM_1 : World.cell? w3 ⟨w.heap.size, 1, none⟩ = some (.slice q l.length cp) := bM.cell 1
    have bM_l := bM.lt
    go_wp2_with fail
    clear bM_0 bM_1 bM_l
    have bhy := Box.new w3 56 #[.int .i64 0, .slice ahy 0 chy]
    have hx3 : Ext w3 (World.alloc w3 (.cells #[.int .i64 0, .slice ahy 0 chy] 56)) := (Ext.refl _).alloc _
    obtain ⟨w3b, hw3⟩ : ∃ x, World.alloc w3 (.cells #[.int .i64 0, .slice ahy 0 chy] 56) = x := ⟨_, rfl⟩
    rw [hw3] at bhy hx3 ⊢
    clear hw3
    replace bM := bM.ext hx3
    replace hL := hL.ext hx3
    replace hR := hR.ext hx3
    replace hP := hP.ext hx3
    replace hy := hy.ext hx3
    have hF3 := Ext.trans (hF2) hx3
    refine (ref33_Same hy (Sts.nil _)).mono ?_
    rintro e w5 ⟨rfl, hE4⟩
    replace bM := bM.ext hE4
    replace hL := hL.ext hE4
    replace hR := hR.ext hE4
    replace hP := hP.ext hE4
    replace hy := hy.ext hE4
    replace bhy := bhy.ext hE4
    have hF4 := Ext.trans (hF3) hE4
    have bM_0 : World.cell? w5 ⟨w.heap.size, 0, none⟩ = some (.int .i64 num) := bM.cell 0
    have bM_1 : World.cell? w5 ⟨w.heap.size, 1, none⟩ = some (.slice q l.length cp) := bM.cell 1
    have bM_l := bM.lt
    have bhy_0 : World.cell? w5 ⟨w3.heap.size, 0, none⟩ = some (.int .i64 0) := bhy.cell 0
    have bhy_1 : World.cell? w5 ⟨w3.heap.size, 1, none⟩ = some (.slice ahy 0 chy) := bhy.cell 1
    have bhy_l := bhy.lt
    go_wp2
    go_ret
    exact ⟨rfl, hF4⟩

  subst he
  obtain ⟨A, N, F, rfl, rfl, hN, hAN, hl2, hFz, hFe, hall, hy0, hy1⟩ := cells_law hU
  replace hU := Lib.hid hU
  replace hall := Lib.hid hall
  replace hFz := Lib.hid hFz
  replace hFe := Lib.hid hFe
  have s1 : decide ((A : Int) < 0) = false := decide_eq_false (by omega)
  have s2 : decide ((N : Int) < 1) = false := decide_eq_false (by omega)
  have s2' : decide (N < 1) = false := decide_eq_false (by omega)
  have s3 : decide (l.length ≤ A) = false := decide_eq_false (by omega)
  have s4 : IntKind.i64.wrap ((l.length : Int) - (A : Int)) = (l.length : Int) - (A : Int) := IntWalk.i64_in _ (by omega)
  have s5 : decide ((l.length : Int) - (A : Int) < (N : Int)) = false := decide_eq_false (by omega)
  have hAN' : A + N ≤ 2 := by omega
  replace hAN := Lib.hid hAN'
  clear hAN' hN
  by_cases hw : why = 0
  · subst hw
    obtain ⟨e1, e2⟩ := hy0 rfl
    have t6 : ((yl.length : Int) != (l.length : Int)) = false := by rw [e2]; simp
    have t6' : (yl.length != l.length) = false := by rw [e2]; simp
    have e1' := e1.symm
    subst e1'
    clear e2 hy0 hy1
    go_enter Tryd.func7, Tryd.ntmps7
    go_wp2_with fail
    try clear hw0
    refine (law33_alive hP).mono ?_
    rintro e w1 ⟨rfl, hE0⟩
    replace bM := bM.ext hE0
    replace hL := hL.ext hE0
    replace hR := hR.ext hE0
    replace hP := hP.ext hE0
    have hF0 := Ext.trans (hF) hE0
    have bM_0 : World.cell? w1 ⟨w.heap.size, 0, none⟩ = some (.int .i64 num) := bM.cell 0
    have bM_1 : World.cell? w1 ⟨w.heap.size, 1, none⟩ = some (.slice q l.length cp) := bM.cell 1
    have bM_l := bM.lt
    go_wp2_with fail
    clear bM_0 bM_1 bM_l
    refine (ref33_Great hL).mono ?_
    rintro e w2 ⟨rfl, hE1⟩
    replace bM := bM.ext hE1
    replace hL := hL.ext hE1
    replace hR := hR.ext hE1
    replace hP := hP.ext hE1
    have hF1 := Ext.trans (hF0) hE1
    rw [hg.out]
    have bM_0 : World.cell? w2 ⟨w.heap.size, 0, none⟩ = some (.int .i64 num) := bM.cell 0
    have bM_1 : World.cell? w2 ⟨w.heap.size, 1, none⟩ = some (.slice q l.length cp) := bM.cell 1
    have bM_l := bM.lt
    go_wp2_with fail
    clear bM_0 bM_1 bM_l
    refine (law33_use hP hk.out tag hL hR).mono ?_
    rintro e w3 ⟨vhy, vshy, rfl, ohy, hE2⟩
    replace bM := bM.ext hE2
    replace hL := hL.ext hE2
    replace hR := hR.ext hE2
    replace hP := hP.ext hE2
    have hF2 := Ext.trans (hF1) hE2
    rw [hU.out] at ohy ⊢
    dsimp only at ohy ⊢
    have hy : Sts _ _ yl := ohy.sts
    obtain ⟨ahy, chy, rfl, -⟩ := hy.form
    clear ohy
    have bM_0 : World.cell? w3 ⟨w.heap.size, 0, none⟩ = some (.int .i64 num) := bM.cell 0
    have bM_1 : World.cell? w3 ⟨w.heap.size, 1, none⟩ = some (.slice q l.length cp) := bM.cell 1
    have bM_l := bM.lt
    go_wp2
    clear bM_0 bM_1 bM_l
    have bhy := Box.new w3 56 #[.int .i64 num, .slice ahy yl.length chy]
    have hx3 : Ext w3 (World.alloc w3 (.cells #[.int .i64 num, .slice ahy yl.length chy] 56)) := (Ext.refl _).alloc _
    obtain ⟨w3b, hw3⟩ : ∃ x, World.alloc w3 (.cells #[.int .i64 num, .slice ahy yl.length chy] 56) = x := ⟨_, rfl⟩
    rw [hw3] at bhy hx3 ⊢
    clear hw3
    replace bM := bM.ext hx3
    replace hL := hL.ext hx3
    replace hR := hR.ext hx3
    replace hP := hP.ext hx3
    replace hy := hy.ext hx3
    have hF3 := Ext.trans (hF2) hx3
    go_loopw [17, 18] (fun fv iv wr => ∃ i : Nat, i ≤ l.length ∧ iv = .int .i64 i ∧ fv = .int .u8 (F i) ∧ Ext w3b wr) (fun _ iv _ => l.length - (intOf iv).toNat)
    case atStart => exact ⟨0, Nat.zero_le _, rfl, (by rw [hFz.out]), Ext.refl _⟩
    case round =>
      obtain ⟨i, hi, rfl, rfl, hQ⟩ := hrel
      replace bM := bM.ext hQ
      replace bhy := bhy.ext hQ
      replace hL := hL.ext hQ
      replace hR := hR.ext hQ
      replace hP := hP.ext hQ
      replace hy := hy.ext hQ
      by_cases hlt : i < l.length
      · have hlt' : decide (i < l.length) = true := decide_eq_true hlt
        obtain ⟨p, hx⟩ : ∃ p, l[i]? = some p := ⟨_, List.getElem?_eq_getElem hlt⟩
        obtain ⟨hno, hyes⟩ := hall.out i p hx
        obtain ⟨b, off, s, rfl, hb, hc, hi⟩ := hL.cell hx
        obtain ⟨pa, pc, rfl, -⟩ := hi.form
        have hltK := hlt
        have hi2k : i < 2 := by omega
        replace hl2 := Lib.hid hl2
        replace hlt := Lib.hid hlt
        replace hx := Lib.hid hx
        have hw1 : IntKind.i64.wrap ((A : Int) + (N : Int)) = (A : Int) + (N : Int) := IntWalk.i64_in _ (by have := hAN.out; omega)
        by_cases hin : A ≤ i ∧ i < A + N
        rotate_left
        · have hc1 : (decide (A ≤ i) = false) ∨ (decide (A ≤ i) = true ∧ decide (i < A + N) = false ∧ decide ((i : Int) < (A : Int) + (N : Int)) = false) := by
            by_cases h : A ≤ i
            · exact .inr ⟨decide_eq_true h, decide_eq_false (by omega), decide_eq_false (by omega)⟩
            · exact .inl (decide_eq_false h)
          obtain ⟨hFs, hz⟩ := hno hin
          replace hFs := Lib.hid hFs
          clear hno hyes hin hb
          obtain ⟨hz0, hyx⟩ := hz rfl
          obtain ⟨yb, yo, ys, rfl, hyb, hyc, hyi⟩ := hy.cell hyx
          obtain ⟨ya, yc, rfl, -⟩ := hyi.form
          have hly : i < yl.length := (List.getElem?_eq_some_iff.1 hyx).1
          clear hyx hyb hz hz0
          rcases hc1 with hc1 | ⟨hc1, hc2, hc2'⟩
          all_goals
            have bM_0 : World.cell? wr ⟨w.heap.size, 0, none⟩ = some (.int .i64 num) := bM.cell 0
            have bM_1 : World.cell? wr ⟨w.heap.size, 1, none⟩ = some (.slice (some ⟨b, off, none⟩) l.length cp) := bM.cell 1
            have bM_l := bM.lt
            have bhy_0 : World.cell? wr ⟨w3.heap.size, 0, none⟩ = some (.int .i64 num) := bhy.cell 0
            have bhy_1 : World.cell? wr ⟨w3.heap.size, 1, none⟩ = some (.slice (some ⟨yb, yo, none⟩) yl.length chy) := bhy.cell 1
            have bhy_l := bhy.lt
            go_wp2_with fail
            clear bM_0 bM_1 bM_l
            clear bhy_0 bhy_1 bhy_l
            refine (ref28_Same_yes hyi hi).mono ?_
            rintro e w61 ⟨rfl, hE60⟩
            replace bM := bM.ext hE60
            replace hL := hL.ext hE60
            replace hR := hR.ext hE60
            replace hP := hP.ext hE60
            replace bhy := bhy.ext hE60
            replace hy := hy.ext hE60
            replace hi := hi.ext hE60
            replace hyi := hyi.ext hE60
            replace hc := Ext.cell hE60 hc
            replace hyc := Ext.cell hE60 hyc
            have hF60 := Ext.trans (Ext.refl wr) hE60
            have bM_0 : World.cell? w61 ⟨w.heap.size, 0, none⟩ = some (.int .i64 num) := bM.cell 0
            have bM_1 : World.cell? w61 ⟨w.heap.size, 1, none⟩ = some (.slice (some ⟨b, off, none⟩) l.length cp) := bM.cell 1
            have bM_l := bM.lt
            have bhy_0 : World.cell? w61 ⟨w3.heap.size, 0, none⟩ = some (.int .i64 num) := bhy.cell 0
            have bhy_1 : World.cell? w61 ⟨w3.heap.size, 1, none⟩ = some (.slice (some ⟨yb, yo, none⟩) yl.length chy) := bhy.cell 1
            have bhy_l := bhy.lt
            go_wp2
            go_roundw
            case rel => have hi1 := hlt.out; have hi2 := hl2.out; exact ⟨i + 1, (by omega), by go_num, (by rw [hFs.out]), hQ.trans hF60⟩
            case measure => have := hlt.out; have := hl2.out; simp [intOf]; omega
        · have hc1 : decide (A ≤ i) = true := decide_eq_true hin.1
          have hc2 : decide (i < A + N) = true := decide_eq_true hin.2
          have hc2' : decide ((i : Int) < (A : Int) + (N : Int)) = true := decide_eq_true (by omega)
          obtain ⟨hS0, hFs, hz⟩ := hyes hin
          obtain ⟨⟨sp, vv, ff⟩, hS⟩ : ∃ z, oneA what tag run p = z := ⟨_, rfl⟩
          rw [hS] at hS0 hFs hz
          dsimp only at hS0 hFs hz
          subst hS0
          replace hS := Lib.hid hS
          clear hno hyes hin hb
          obtain ⟨hz0, hyx⟩ := hz rfl
          rw [if_pos hz0] at hFs
          have hz1 : (F i == 0) = true := by simp [hz0]
          replace hFs := Lib.hid hFs
          obtain ⟨yb, yo, ys, rfl, hyb, hyc, hyi⟩ := hy.cell hyx
          obtain ⟨ya, yc, rfl, -⟩ := hyi.form
          have hly : i < yl.length := (List.getElem?_eq_some_iff.1 hyx).1
          clear hyx hyb hz hz0
          have bM_0 : World.cell? wr ⟨w.heap.size, 0, none⟩ = some (.int .i64 num) := bM.cell 0
          have bM_1 : World.cell? wr ⟨w.heap.size, 1, none⟩ = some (.slice (some ⟨b, off, none⟩) l.length cp) := bM.cell 1
          have bM_l := bM.lt
          have bhy_0 : World.cell? wr ⟨w3.heap.size, 0, none⟩ = some (.int .i64 num) := bhy.cell 0
          have bhy_1 : World.cell? wr ⟨w3.heap.size, 1, none⟩ = some (.slice (some ⟨yb, yo, none⟩) yl.length chy) := bhy.cell 1
          have bhy_l := bhy.lt
          go_wp2_with fail
          clear bM_0 bM_1 bM_l
          clear bhy_0 bhy_1 bhy_l
          refine (law33_one hP hk.out tag hi hR).mono ?_
          rintro e w61 ⟨v3, rfl, o3, hE60⟩
          replace bM := bM.ext hE60
          replace hL := hL.ext hE60
          replace hR := hR.ext hE60
          replace hP := hP.ext hE60
          replace bhy := bhy.ext hE60
          replace hy := hy.ext hE60
          replace hi := hi.ext hE60
          replace hyi := hyi.ext hE60
          replace hc := Ext.cell hE60 hc
          replace hyc := Ext.cell hE60 hyc
          have hF60 := Ext.trans (Ext.refl wr) hE60
          rw [hS.out] at o3 ⊢
          dsimp only at o3 ⊢
          have h3 : Its _ _ sp := o3.its
          obtain ⟨a3, c3, rfl, -⟩ := h3.form
          clear o3
          have bM_0 : World.cell? w61 ⟨w.heap.size, 0, none⟩ = some (.int .i64 num) := bM.cell 0
          have bM_1 : World.cell? w61 ⟨w.heap.size, 1, none⟩ = some (.slice (some ⟨b, off, none⟩) l.length cp) := bM.cell 1
          have bM_l := bM.lt
          have bhy_0 : World.cell? w61 ⟨w3.heap.size, 0, none⟩ = some (.int .i64 num) := bhy.cell 0
          have bhy_1 : World.cell? w61 ⟨w3.heap.size, 1, none⟩ = some (.slice (some ⟨yb, yo, none⟩) yl.length chy) := bhy.cell 1
          have bhy_l := bhy.lt
          go_wp2_with fail
          clear bM_0 bM_1 bM_l
          clear bhy_0 bhy_1 bhy_l
          refine (ref28_Same_yes hyi h3).mono ?_
          rintro e w62 ⟨rfl, hE61⟩
          replace bM := bM.ext hE61
          replace hL := hL.ext hE61
          replace hR := hR.ext hE61
          replace hP := hP.ext hE61
          replace bhy := bhy.ext hE61
          replace hy := hy.ext hE61
          replace hi := hi.ext hE61
          replace hyi := hyi.ext hE61
          replace h3 := h3.ext hE61
          replace hc := Ext.cell hE61 hc
          replace hyc := Ext.cell hE61 hyc
          have hF61 := Ext.trans (hF60) hE61
          have bM_0 : World.cell? w62 ⟨w.heap.size, 0, none⟩ = some (.int .i64 num) := bM.cell 0
          have bM_1 : World.cell? w62 ⟨w.heap.size, 1, none⟩ = some (.slice (some ⟨b, off, none⟩) l.length cp) := bM.cell 1
          have bM_l := bM.lt
          have bhy_0 : World.cell? w62 ⟨w3.heap.size, 0, none⟩ = some (.int .i64 num) := bhy.cell 0
          have bhy_1 : World.cell? w62 ⟨w3.heap.size, 1, none⟩ = some (.slice (some ⟨yb, yo, none⟩) yl.length chy) := bhy.cell 1
          have bhy_l := bhy.lt
          go_wp2
          go_roundw
          case rel => have hi1 := hlt.out; have hi2 := hl2.out; exact ⟨i + 1, (by omega), by go_num, (by rw [hFs.out]), hQ.trans hF61⟩
          case measure => have := hlt.out; have := hl2.out; simp [intOf]; omega
      · have hlt' : decide (i < l.length) = false := decide_eq_false hlt
        have hie : F i = 0 := by rw [show i = l.length by omega]; exact hFe.out
        rw [hie]
        clear hlt hie
        have bM_0 : World.cell? wr ⟨w.heap.size, 0, none⟩ = some (.int .i64 num) := bM.cell 0
        have bM_1 : World.cell? wr ⟨w.heap.size, 1, none⟩ = some (.slice q l.length cp) := bM.cell 1
        have bM_l := bM.lt
        have bhy_0 : World.cell? wr ⟨w3.heap.size, 0, none⟩ = some (.int .i64 num) := bhy.cell 0
        have bhy_1 : World.cell? wr ⟨w3.heap.size, 1, none⟩ = some (.slice ahy yl.length chy) := bhy.cell 1
        have bhy_l := bhy.lt
        go_wp2
        go_ret
        exact ⟨rfl, hF3.trans hQ⟩

  · obtain ⟨rfl, rfl⟩ := hy1 hw
    have t7 : (why == 0) = false := by simp [hw]
    have t7' : (why != 0) = true := by simp [hw]
    clear hy0 hy1 hw
    go_enter Tryd.func7, Tryd.ntmps7
    go_wp2_with fail
    try clear hw0
    refine (law33_alive hP).mono ?_
    rintro e w1 ⟨rfl, hE0⟩
    replace bM := bM.ext hE0
    replace hL := hL.ext hE0
    replace hR := hR.ext hE0
    replace hP := hP.ext hE0
    have hF0 := Ext.trans (hF) hE0
    have bM_0 : World.cell? w1 ⟨w.heap.size, 0, none⟩ = some (.int .i64 num) := bM.cell 0
    have bM_1 : World.cell? w1 ⟨w.heap.size, 1, none⟩ = some (.slice q l.length cp) := bM.cell 1
    have bM_l := bM.lt
    go_wp2_with fail
    clear bM_0 bM_1 bM_l
    refine (ref33_Great hL).mono ?_
    rintro e w2 ⟨rfl, hE1⟩
    replace bM := bM.ext hE1
    replace hL := hL.ext hE1
    replace hR := hR.ext hE1
    replace hP := hP.ext hE1
    have hF1 := Ext.trans (hF0) hE1
    rw [hg.out]
    have bM_0 : World.cell? w2 ⟨w.heap.size, 0, none⟩ = some (.int .i64 num) := bM.cell 0
    have bM_1 : World.cell? w2 ⟨w.heap.size, 1, none⟩ = some (.slice q l.length cp) := bM.cell 1
    have bM_l := bM.lt
    go_wp2_with fail
    clear bM_0 bM_1 bM_l
    refine (law33_use hP hk.out tag hL hR).mono ?_
    rintro e w3 ⟨vhy, vshy, rfl, ohy, hE2⟩
    replace bM := bM.ext hE2
    replace hL := hL.ext hE2
    replace hR := hR.ext hE2
    replace hP := hP.ext hE2
    have hF2 := Ext.trans (hF1) hE2
    rw [hU.out] at ohy ⊢
    dsimp only at ohy ⊢
    have hy : Sts _ _ [] := ohy.sts
    obtain ⟨ahy, chy, rfl, -⟩ := hy.form
    clear ohy
    have bM_0 : World.cell? w3 ⟨w.heap.size, 0, none⟩ = some (.int .i64 num) := bM.cell 0
    have bM_1 : World.cell? w3 ⟨w.heap.size, 1, none⟩ = some (.slice q l.length cp) := bM.cell 1
    have bM_l := bM.lt
    go_wp2
    clear bM_0 bM_1 bM_l
    have bhy := Box.new w3 56 #[.int .i64 0, .slice ahy 0 chy]
    have hx3 : Ext w3 (World.alloc w3 (.cells #[.int .i64 0, .slice ahy 0 chy] 56)) := (Ext.refl _).alloc _
    obtain ⟨w3b, hw3⟩ : ∃ x, World.alloc w3 (.cells #[.int .i64 0, .slice ahy 0 chy] 56) = x := ⟨_, rfl⟩
    rw [hw3] at bhy hx3 ⊢
    clear hw3
    replace bM := bM.ext hx3
    replace hL := hL.ext hx3
    replace hR := hR.ext hx3
    replace hP := hP.ext hx3
    replace hy := hy.ext hx3
    have hF3 := Ext.trans (hF2) hx3
    go_loopw [17, 18] (fun fv iv wr => ∃ i : Nat, i ≤ l.length ∧ iv = .int .i64 i ∧ fv = .int .u8 (F i) ∧ Ext w3b wr) (fun _ iv _ => l.length - (intOf iv).toNat)
    case atStart => exact ⟨0, Nat.zero_le _, rfl, (by rw [hFz.out]), Ext.refl _⟩
    case round =>
      obtain ⟨i, hi, rfl, rfl, hQ⟩ := hrel
      replace bM := bM.ext hQ
      replace bhy := bhy.ext hQ
      replace hL := hL.ext hQ
      replace hR := hR.ext hQ
      replace hP := hP.ext hQ
      replace hy := hy.ext hQ
      by_cases hlt : i < l.length
      · have hlt' : decide (i < l.length) = true := decide_eq_true hlt
        obtain ⟨p, hx⟩ : ∃ p, l[i]? = some p := ⟨_, List.getElem?_eq_getElem hlt⟩
        obtain ⟨hno, hyes⟩ := hall.out i p hx
        obtain ⟨b, off, s, rfl, hb, hc, hi⟩ := hL.cell hx
        obtain ⟨pa, pc, rfl, -⟩ := hi.form
        have hltK := hlt
        have hi2k : i < 2 := by omega
        replace hl2 := Lib.hid hl2
        replace hlt := Lib.hid hlt
        replace hx := Lib.hid hx
        have hw1 : IntKind.i64.wrap ((A : Int) + (N : Int)) = (A : Int) + (N : Int) := IntWalk.i64_in _ (by have := hAN.out; omega)
        by_cases hin : A ≤ i ∧ i < A + N
        rotate_left
        · have hc1 : (decide (A ≤ i) = false) ∨ (decide (A ≤ i) = true ∧ decide (i < A + N) = false ∧ decide ((i : Int) < (A : Int) + (N : Int)) = false) := by
            by_cases h : A ≤ i
            · exact .inr ⟨decide_eq_true h, decide_eq_false (by omega), decide_eq_false (by omega)⟩
            · exact .inl (decide_eq_false h)
          obtain ⟨hFs, hz⟩ := hno hin
          replace hFs := Lib.hid hFs
          clear hno hyes hin hb
          clear hz
          rcases hc1 with hc1 | ⟨hc1, hc2, hc2'⟩
          all_goals
            have bM_0 : World.cell? wr ⟨w.heap.size, 0, none⟩ = some (.int .i64 num) := bM.cell 0
            have bM_1 : World.cell? wr ⟨w.heap.size, 1, none⟩ = some (.slice (some ⟨b, off, none⟩) l.length cp) := bM.cell 1
            have bM_l := bM.lt
            have bhy_0 : World.cell? wr ⟨w3.heap.size, 0, none⟩ = some (.int .i64 0) := bhy.cell 0
            have bhy_1 : World.cell? wr ⟨w3.heap.size, 1, none⟩ = some (.slice ahy 0 chy) := bhy.cell 1
            have bhy_l := bhy.lt
            go_wp2
            go_roundw
            case rel => have hi1 := hlt.out; have hi2 := hl2.out; exact ⟨i + 1, (by omega), by go_num, (by rw [hFs.out]), hQ.trans (Ext.refl wr)⟩
            case measure => have := hlt.out; have := hl2.out; simp [intOf]; omega
        · have hc1 : decide (A ≤ i) = true := decide_eq_true hin.1
          have hc2 : decide (i < A + N) = true := decide_eq_true hin.2
          have hc2' : decide ((i : Int) < (A : Int) + (N : Int)) = true := decide_eq_true (by omega)
          obtain ⟨hS0, hFs, hz⟩ := hyes hin
          obtain ⟨⟨sp, vv, ff⟩, hS⟩ : ∃ z, oneA what tag run p = z := ⟨_, rfl⟩
          rw [hS] at hS0 hFs hz
          dsimp only at hS0 hFs hz
          subst hS0
          replace hS := Lib.hid hS
          clear hno hyes hin hb
          clear hz
          by_cases hz0 : F i = 0
          · have hz1 : (F i == 0) = true := by simp [hz0]
            rw [if_pos hz0] at hFs
            replace hFs := Lib.hid hFs
            clear hz0
            have bM_0 : World.cell? wr ⟨w.heap.size, 0, none⟩ = some (.int .i64 num) := bM.cell 0
            have bM_1 : World.cell? wr ⟨w.heap.size, 1, none⟩ = some (.slice (some ⟨b, off, none⟩) l.length cp) := bM.cell 1
            have bM_l := bM.lt
            have bhy_0 : World.cell? wr ⟨w3.heap.size, 0, none⟩ = some (.int .i64 0) := bhy.cell 0
            have bhy_1 : World.cell? wr ⟨w3.heap.size, 1, none⟩ = some (.slice ahy 0 chy) := bhy.cell 1
            have bhy_l := bhy.lt
            go_wp2_with fail
            clear bM_0 bM_1 bM_l
            clear bhy_0 bhy_1 bhy_l
            refine (law33_one hP hk.out tag hi hR).mono ?_
            rintro e w61 ⟨v3, rfl, o3, hE60⟩
            replace bM := bM.ext hE60
            replace hL := hL.ext hE60
            replace hR := hR.ext hE60
            replace hP := hP.ext hE60
            replace bhy := bhy.ext hE60
            replace hy := hy.ext hE60
            replace hi := hi.ext hE60
            replace hc := Ext.cell hE60 hc
            have hF60 := Ext.trans (Ext.refl wr) hE60
            rw [hS.out] at o3 ⊢
            dsimp only at o3 ⊢
            have h3 : Its _ _ sp := o3.its
            obtain ⟨a3, c3, rfl, -⟩ := h3.form
            clear o3
            have bM_0 : World.cell? w61 ⟨w.heap.size, 0, none⟩ = some (.int .i64 num) := bM.cell 0
            have bM_1 : World.cell? w61 ⟨w.heap.size, 1, none⟩ = some (.slice (some ⟨b, off, none⟩) l.length cp) := bM.cell 1
            have bM_l := bM.lt
            have bhy_0 : World.cell? w61 ⟨w3.heap.size, 0, none⟩ = some (.int .i64 0) := bhy.cell 0
            have bhy_1 : World.cell? w61 ⟨w3.heap.size, 1, none⟩ = some (.slice ahy 0 chy) := bhy.cell 1
            have bhy_l := bhy.lt
            go_wp2
            go_roundw
            case rel => have hi1 := hlt.out; have hi2 := hl2.out; exact ⟨i + 1, (by omega), by go_num, (by rw [hFs.out]), hQ.trans hF60⟩
            case measure => have := hlt.out; have := hl2.out; simp [intOf]; omega
          · have hz1 : (F i == 0) = false := by simp [hz0]
            rw [if_neg hz0] at hFs
            replace hFs := Lib.hid hFs
            clear hz0
            have bM_0 : World.cell? wr ⟨w.heap.size, 0, none⟩ = some (.int .i64 num) := bM.cell 0
            have bM_1 : World.cell? wr ⟨w.heap.size, 1, none⟩ = some (.slice (some ⟨b, off, none⟩) l.length cp) := bM.cell 1
            have bM_l := bM.lt
            have bhy_0 : World.cell? wr ⟨w3.heap.size, 0, none⟩ = some (.int .i64 0) := bhy.cell 0
            have bhy_1 : World.cell? wr ⟨w3.heap.size, 1, none⟩ = some (.slice ahy 0 chy) := bhy.cell 1
            have bhy_l := bhy.lt
            go_wp2_with fail
            clear bM_0 bM_1 bM_l
            clear bhy_0 bhy_1 bhy_l
            refine (law33_one hP hk.out tag hi hR).mono ?_
            rintro e w61 ⟨v3, rfl, o3, hE60⟩
            replace bM := bM.ext hE60
            replace hL := hL.ext hE60
            replace hR := hR.ext hE60
            replace hP := hP.ext hE60
            replace bhy := bhy.ext hE60
            replace hy := hy.ext hE60
            replace hi := hi.ext hE60
            replace hc := Ext.cell hE60 hc
            have hF60 := Ext.trans (Ext.refl wr) hE60
            rw [hS.out] at o3 ⊢
            dsimp only at o3 ⊢
            have h3 : Its _ _ sp := o3.its
            obtain ⟨a3, c3, rfl, -⟩ := h3.form
            clear o3
            have bM_0 : World.cell? w61 ⟨w.heap.size, 0, none⟩ = some (.int .i64 num) := bM.cell 0
            have bM_1 : World.cell? w61 ⟨w.heap.size, 1, none⟩ = some (.slice (some ⟨b, off, none⟩) l.length cp) := bM.cell 1
            have bM_l := bM.lt
            have bhy_0 : World.cell? w61 ⟨w3.heap.size, 0, none⟩ = some (.int .i64 0) := bhy.cell 0
            have bhy_1 : World.cell? w61 ⟨w3.heap.size, 1, none⟩ = some (.slice ahy 0 chy) := bhy.cell 1
            have bhy_l := bhy.lt
            go_wp2
            go_roundw
            case rel => have hi1 := hlt.out; have hi2 := hl2.out; exact ⟨i + 1, (by omega), by go_num, (by rw [hFs.out]), hQ.trans hF60⟩
            case measure => have := hlt.out; have := hl2.out; simp [intOf]; omega
      · have hlt' : decide (i < l.length) = false := decide_eq_false hlt
        have hie : F i = why := by rw [show i = l.length by omega]; exact hFe.out
        rw [hie]
        clear hlt hie
        have bM_0 : World.cell? wr ⟨w.heap.size, 0, none⟩ = some (.int .i64 num) := bM.cell 0
        have bM_1 : World.cell? wr ⟨w.heap.size, 1, none⟩ = some (.slice q l.length cp) := bM.cell 1
        have bM_l := bM.lt
        have bhy_0 : World.cell? wr ⟨w3.heap.size, 0, none⟩ = some (.int .i64 0) := bhy.cell 0
        have bhy_1 : World.cell? wr ⟨w3.heap.size, 1, none⟩ = some (.slice ahy 0 chy) := bhy.cell 1
        have bhy_l := bhy.lt
        go_wp2_with fail
        clear bM_0 bM_1 bM_l
        clear bhy_0 bhy_1 bhy_l
        refine (ref33_Same hy (Sts.nil _)).mono ?_
        rintro e w81 ⟨rfl, hE80⟩
        replace bM := bM.ext hE80
        replace bhy := bhy.ext hE80
        replace hy := hy.ext hE80
        have hF80 := Ext.trans (Ext.refl wr) hE80
        have bM_0 : World.cell? w81 ⟨w.heap.size, 0, none⟩ = some (.int .i64 num) := bM.cell 0
        have bM_1 : World.cell? w81 ⟨w.heap.size, 1, none⟩ = some (.slice q l.length cp) := bM.cell 1
        have bM_l := bM.lt
        have bhy_0 : World.cell? w81 ⟨w3.heap.size, 0, none⟩ = some (.int .i64 0) := bhy.cell 0
        have bhy_1 : World.cell? w81 ⟨w3.heap.size, 1, none⟩ = some (.slice ahy 0 chy) := bhy.cell 1
        have bhy_l := bhy.lt
        go_wp2
        go_ret
        exact ⟨rfl, hF3.trans (hQ.trans hF80)⟩

set_option maxRecDepth 100000 in
theorem stacksCells_contract (H : Type) (enc : TypeId × Value → H) (W : World) (base : Nat) (args : Array Value) (ds gs : List (DataW H)) (before : List MemPlace)
    (hval0 : ∀ (j : Nat) t v, Tryd.f7.params[j]? = some t → args[j]? = some v → Value.okWide Tryd.prog W .any base t v)
    (hW : DataW.Whole enc Tryd.prog Tryd.f7.params.toList Rows.stacksCellsSpec.vars false W args.toList ds gs before) (hL : laidMetH Tryd.prog Rows.stacksCellsRow.laid W) :
    Calls Tryd.prog 7 args W fun e W' => ∃ v, e = .returned v ∧ Rows.stacksCellsSpec.post enc Tryd.prog Tryd.f7 false true false false W args v W' := by
  have hval : ∀ (j : Nat) t v, Tryd.f7.params[j]? = some t → args[j]? = some v → Value.okWide Tryd.prog W .any base t v := hval0
  have hW' := hW
  obtain ⟨p, q, hA0, hV, rfl, hfz, hnd⟩ := hW
  have hA : DataW.TrodAll enc Tryd.prog W 0 (fun _ => true) true Tryd.f7.params.toList args.toList ds p := hA0
  rw [Tryd.params7] at hA hval
  obtain ⟨v0, vs0, d0, ds0, p0, q0, hargs, rfl, rfl, h0, r0⟩ := trodAll_cons hA
  obtain ⟨v1, vs1, d1, ds1, p1, q1, rfl, rfl, rfl, h1, r1⟩ := trodAll_cons r0
  obtain ⟨v2, vs2, d2, ds2, p2, q2, rfl, rfl, rfl, h2, r2⟩ := trodAll_cons r1
  obtain ⟨v3, vs3, d3, ds3, p3, q3, rfl, rfl, rfl, h3, r3⟩ := trodAll_cons r2
  obtain ⟨v4, vs4, d4, ds4, p4, q4, rfl, rfl, rfl, h4, r4⟩ := trodAll_cons r3
  obtain ⟨v5, vs5, d5, ds5, p5, q5, rfl, rfl, rfl, h5, r5⟩ := trodAll_cons r4
  obtain ⟨rfl, rfl, rfl⟩ := trodAll_nil r5
  obtain rfl : args = #[v0, v1, v2, v3, v4, v5] := by cases args; simp_all
  obtain ⟨x0, u0, rfl, k0, wf0⟩ := open_stacks (hval 0 56 v0 rfl rfl) h0
  obtain ⟨x1, rfl, rfl, rfl, wf1⟩ := open_int Tryd.underlying5 (hval 1 5 v1 rfl rfl) h1
  obtain ⟨x2, rfl, rfl, rfl, wf2⟩ := open_int Tryd.underlying3 (hval 2 3 v2 rfl rfl) h2
  obtain ⟨x3, rfl, rfl, rfl, wf3⟩ := open_int Tryd.underlying3 (hval 3 3 v3 rfl rfl) h3
  obtain ⟨x4, rfl, rfl, rfl, wf4⟩ := open_int Tryd.underlying3 (hval 4 3 v4 rfl rfl) h4
  obtain ⟨x5, k5, wf5⟩ := open_ints' Tryd.underlying37 (hval 5 37 v5 rfl rfl) h5
  refine (stacksCells_walk (perms_of_laid hL) (u8B_of wf1) x4 k0 k5).mono fun e W' ⟨he, hb⟩ => ?_
  subst he
  exact ⟨_, rfl, post_law TrydlaidOut (tb := 4) rfl Tryd.underlying4 (by kernel_rfl) rfl (fun ds hd => match ds, hd with | [a0, a1, a2, a3, a4, a5], _ => rfl) hW' hb⟩
theorem stacksCells_met (os : Os) : laidMet Tryd.prog Rows.stacksCellsRow.laid ((doorWorld os).forCall (fun _ _ => 0) ⟨#[], #[.agg #[.int .i64 0, .slice none 0 0], .int .u8 0, .int .i64 0, .int .i64 0, .int .i64 0, .slice none 0 0], []⟩).memory :=
  laidMet_of_run' 8 (by kernel_rfl) (by kernel_rfl)
theorem stacksCells_reads (os : Os) {H : Type} (enc : TypeId × Value → H) : ∃ places, DataW.whole enc Tryd.prog ((doorWorld os).forCall (fun _ _ => 0) ⟨#[], #[.agg #[.int .i64 0, .slice none 0 0], .int .u8 0, .int .i64 0, .int .i64 0, .int .i64 0, .slice none 0 0], []⟩).memory Tryd.f7.params.toList Rows.stacksCellsSpec.vars false (#[.agg #[.int .i64 0, .slice none 0 0], .int .u8 0, .int .i64 0, .int .i64 0, .int .i64 0, .slice none 0 0] : Array Value).toList 8 = some ([.agg [.lit (.int .i64 0), .nil], .lit (.int .u8 0), .lit (.int .i64 0), .lit (.int .i64 0), .lit (.int .i64 0), .nil], [], places) :=
  ⟨[], by kernel_rfl⟩
set_option maxRecDepth 100000 in
theorem stacksCells_lifted (os : Os) (started : os.Started) (H : Type) (enc : TypeId × Value → H) (F : Stop.Interp) :
    ReturnsInHanded {} Tryd.checked os 7 .any ((OpenSpec.ofChange Rows.stacksCellsSpec).preRow enc Tryd.prog Tryd.f7 Rows.stacksCellsRow.domain false Rows.stacksCellsRow.laid) (((OpenSpec.ofChange Rows.stacksCellsSpec).at F).post enc Tryd.prog Tryd.f7 false true false false) := by
  obtain ⟨places, hx⟩ := stacksCells_reads os enc
  refine returnsInHanded_of_row (C := Tryd.checked) (s := OpenSpec.ofChange Rows.stacksCellsSpec) Trydown started (by kernel_rfl) Tryd.func7
    (witness_row_at (enc := enc) (C := Tryd.checked) false (doorWorld os) #[.agg #[.int .i64 0, .slice none 0 0], .int .u8 0, .int .i64 0, .int .i64 0, .int .i64 0, .slice none 0 0] rfl (by kernel_rfl) (by kernel_rfl) (by kernel_rfl)
      (OpenSpec.preRow_of_cond 8 hx (by kernel_rfl) (fun k hk => by cases hk) (by kernel_rfl) (stacksCells_met os))) ?_
  intro W base args ds gs before hval hW _ _ _ hL _ _
  exact stacksCells_contract H enc W base args ds gs before hval hW hL
theorem stacksCells_said : Rows.StacksCellsSaid :=
  OpenClaim.holds_of_cond 7 Tryd.f7 rfl rfl rfl rfl rfl rfl rfl ⟨rfl, rfl, rfl, rfl, rfl⟩ rfl rfl rfl rfl rfl (by kernel_rfl) Tryd.func7 (by kernel_rfl)
    (of_decide_eq_true (by kernel_rfl)) (by unfold Func.isWrapper; first | (rw [if_pos (by decide +kernel)]; kernel_rfl) | (rw [if_neg (by decide +kernel)]; exact ⟨rfl, rfl⟩))
    (fun os started H enc _ F => by rw [OpenClaim.pre_eq_preRow]; exact stacksCells_lifted os started H enc F)
theorem stacksCells_plain (f : FuncId) (fn : Func) (hf : Tryd.pinned.checked.prog.funcNamed "pawnshop/pawnshoplaw33.StacksCells" = some f) (hfn : Tryd.pinned.checked.prog.funcs[f]? = some fn) :
    false = Tryd.pinned.checked.prog.looks [] ∧ ∀ (j : Nat) t, fn.params[j]? = some t → Tryd.pinned.checked.prog.wantsStandIn t = false := by
  obtain rfl : f = 7 := Option.some.inj ((show Tryd.prog.funcNamed "pawnshop/pawnshoplaw33.StacksCells" = some 7 by kernel_rfl).symm.trans hf) |>.symm
  obtain rfl : fn = Tryd.f7 := (Option.some.inj (Tryd.func7.symm.trans hfn)).symm
  refine ⟨by kernel_rfl, fun j t ht => ?_⟩
  have hm : t ∈ Tryd.f7.params.toList := by simpa using Array.mem_of_getElem? ht
  have hall : (Tryd.f7.params.toList.all fun u => !Tryd.prog.wantsStandIn u) = true := by kernel_rfl
  exact (show Tryd.prog.wantsStandIn t = false by simpa using List.all_eq_true.1 hall t hm)
theorem stacksCells_card : Rows.StacksCellsCardSaid :=
  Claim7.holds_tied_plain_at .later [] _ _ _ _ stacksCells_said (fun _ h => by cases h) (by kernel_rfl) (fun _ h => by cases h) stacksCells_row_tie rfl ⟨rfl, rfl⟩ (by kernel_rfl) rfl stacksCells_plain (by kernel_rfl)

end Go.Proofs.YtjfkfibhgilolaaDoor
