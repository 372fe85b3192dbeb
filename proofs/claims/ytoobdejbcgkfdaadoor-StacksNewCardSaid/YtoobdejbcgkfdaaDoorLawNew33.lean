/- The statement StacksNew: for all numbers the call returns true. Condition: the laid permissions. (printed by gen/new33.py) -/
import Derived.Test.YtoobdejbcgkfdaaDoorStkK
import Derived.Test.YtoobdejbcgkfdaaDoorStkL
import Derived.Test.YtoobdejbcgkfdaaDoorReadK
import Derived.Test.YtoobdejbcgkfdaaDoorReadI
import Derived.Test.YtoobdejbcgkfdaaDoorClose
import Derived.Test.YtoobdejbcgkfdaaDoorDoor
namespace Go.Proofs.YtoobdejbcgkfdaaDoor
set_option maxRecDepth 100000
open Go.ChangeShapes Go.WideShapes Go.ChangeAt Go.RowKit

set_option maxRecDepth 100000 in
set_option maxHeartbeats 12800000 in
theorem stacksNew_walk {w : World} (hp : Perms w) (num size tag other : Int) :
    Calls Tryd.prog 14 #[.int .i64 num, .int .i64 size, .int .i64 tag, .int .i64 other] w fun e w' => e = .returned (.bool true) ∧ Ext w w' := by
  cases hc : inB num && inB tag && decide (1 ≤ size) && decide (size ≤ 2)
  · have hN := Lib.hid (newK_no hc)
    clear hc
    go_enter Tryd.func14, Tryd.ntmps14
    go_wp2_with fail
    refine (law33_alive hp).mono ?_
    rintro e w1 ⟨rfl, hE0⟩
    replace hp := hp.ext hE0
    have hF0 := Ext.trans (Ext.refl w) hE0
    go_wp2_with fail
    refine (stacks_New num size tag _).mono ?_
    rintro e w2 ⟨vx, vsx, rfl, ox, hE1⟩
    replace hp := hp.ext hE1
    have hF1 := Ext.trans (hF0) hE1
    rw [hN.out] at ox ⊢
    dsimp only [Stk.zero] at ox ⊢
    have hx : Sts _ _ [] := ox.sts
    obtain ⟨ax, cx, rfl, -⟩ := hx.form
    clear ox
    go_wp2_with fail
    have bX := Box.new w2 70 #[.int .i64 0, .slice ax 0 cx]
    have hx2 : Ext w2 (World.alloc w2 (.cells #[.int .i64 0, .slice ax 0 cx] 70)) := (Ext.refl _).alloc _
    obtain ⟨w2b, hw2⟩ : ∃ x, World.alloc w2 (.cells #[.int .i64 0, .slice ax 0 cx] 70) = x := ⟨_, rfl⟩
    rw [hw2] at bX hx2 ⊢
    clear hw2
    replace hp := hp.ext hx2
    replace hx := hx.ext hx2
    have hF2 := Ext.trans (hF1) hx2
    refine (ref33_Same hx (Sts.nil _)).mono ?_
    rintro e w4 ⟨rfl, hE3⟩
    replace hp := hp.ext hE3
    replace hx := hx.ext hE3
    replace bX := bX.ext hE3
    have hF3 := Ext.trans (hF2) hE3
    go_wp2
    go_ret
    exact ⟨rfl, hF3⟩

  · have hN0 := newK_yes hc
    simp only [Bool.and_eq_true, decide_eq_true_eq] at hc
    obtain ⟨⟨⟨hnb, htb⟩, hs1⟩, hs2⟩ := hc
    obtain ⟨sz, rfl⟩ : ∃ m : Nat, size = m := ⟨size.toNat, by omega⟩
    have hsz : 1 ≤ sz ∧ sz ≤ 2 := by omega
    rw [Int.toNat_natCast] at hN0
    have hall : Hid (∀ (o : Int) (b : Bool) (i j : Nat), i < sz ∧ 1 ≤ j ∧ j ≤ sz - i → use33 ⟨num, based sz tag⟩ i j o b [] = if o = tag then (⟨num, based sz tag⟩, 0, 0) else (Stk.zero, 1, 0)) := Hid.mk (fun o b i j h => new_use o b hnb htb hsz h)
    have hke := Lib.hid (stkErr_ok (new_okK hnb htb hsz))
    have hxl := based_len sz tag
    have hre : Hid (runErr [] = 0) := Hid.mk (by decide)
    obtain ⟨X, hX⟩ : ∃ X, based sz tag = X := ⟨_, rfl⟩
    rw [hX] at hN0 hall hke hxl
    have t1 : ((X.length : Int) != (sz : Int)) = false := by rw [hxl]; simp
    have t1' : (X.length != sz) = false := by rw [hxl]; simp
    replace hxl := Lib.hid hxl
    clear hX hnb htb hs1 hs2
    have hN := Lib.hid hN0
    have hszh := Lib.hid hsz
    clear hsz
    clear hN0
    go_enter Tryd.func14, Tryd.ntmps14
    go_wp2_with fail
    refine (law33_alive hp).mono ?_
    rintro e w1 ⟨rfl, hE0⟩
    replace hp := hp.ext hE0
    have hF0 := Ext.trans (Ext.refl w) hE0
    go_wp2_with fail
    refine (stacks_New num (sz : Int) tag _).mono ?_
    rintro e w2 ⟨vx, vsx, rfl, ox, hE1⟩
    replace hp := hp.ext hE1
    have hF1 := Ext.trans (hF0) hE1
    rw [hN.out] at ox ⊢
    dsimp only [Stk.zero] at ox ⊢
    have hx : Sts _ _ X := ox.sts
    obtain ⟨ax, cx, rfl, -⟩ := hx.form
    clear ox
    go_wp2_with fail
    have bX := Box.new w2 70 #[.int .i64 num, .slice ax X.length cx]
    have hx2 : Ext w2 (World.alloc w2 (.cells #[.int .i64 num, .slice ax X.length cx] 70)) := (Ext.refl _).alloc _
    obtain ⟨w2b, hw2⟩ : ∃ x, World.alloc w2 (.cells #[.int .i64 num, .slice ax X.length cx] 70) = x := ⟨_, rfl⟩
    rw [hw2] at bX hx2 ⊢
    clear hw2
    replace hp := hp.ext hx2
    replace hx := hx.ext hx2
    have hF2 := Ext.trans (hF1) hx2
    refine (stacks_Check hx).mono ?_
    rintro e w4 ⟨rfl, hE3⟩
    replace hp := hp.ext hE3
    replace hx := hx.ext hE3
    replace bX := bX.ext hE3
    have hF3 := Ext.trans (hF2) hE3
    rw [hke.out]
    have bX_0 : World.cell? w4 ⟨w2.heap.size, 0, none⟩ = some (.int .i64 num) := bX.cell 0
    have bX_1 : World.cell? w4 ⟨w2.heap.size, 1, none⟩ = some (.slice ax X.length cx) := bX.cell 1
    have bX_l := bX.lt
    go_wp2_with fail
    clear bX_0 bX_1 bX_l
    refine (ref31_Check (Nts.nil _)).mono ?_
    rintro e wz ⟨rfl, rfl⟩
    rw [hre.out]
    go_wp2
    clear t1 t1'
    go_loopw [12] (fun iv wr => ∃ i : Nat, i ≤ sz ∧ iv = .int .i64 i ∧ Ext w4 wr) (fun iv _ => sz - (intOf iv).toNat)
    case atStart => exact ⟨0, Nat.zero_le _, rfl, Ext.refl _⟩
    case round =>
      obtain ⟨i, hi, rfl, hE⟩ := hrel
      have hsz := hszh.out
      by_cases hlt : i < sz
      · have hlt' : decide (i < sz) = true := decide_eq_true hlt
        have hw1 : IntKind.i64.wrap ((sz : Int) - (i : Int)) = (sz : Int) - (i : Int) := IntWalk.i64_in _ (by omega)
        go_wp2
        go_loopw [13] (fun jv wr => ∃ j : Nat, 1 ≤ j ∧ j ≤ sz - i + 1 ∧ jv = .int .i64 j ∧ Ext w4 wr) (fun jv _ => sz - i + 1 - (intOf jv).toNat)
        case atStart => exact ⟨1, Nat.le_refl _, by omega, rfl, hE⟩
        case round =>
          obtain ⟨j, hj1, hj2, rfl, hQ⟩ := hrel
          by_cases hjl : j ≤ sz - i
          · have hjl' : decide ((j : Int) ≤ (sz : Int) - (i : Int)) = true := decide_eq_true (by omega)
            have hA := Lib.hid ((hall.out tag true i j ⟨hlt, hj1, hjl⟩).trans (if_pos rfl))
            have hB := Lib.hid ((hall.out tag false i j ⟨hlt, hj1, hjl⟩).trans (if_pos rfl))
            replace bX := bX.ext hQ
            replace hx := hx.ext hQ
            by_cases ho : other = tag
            · subst ho
              have bX_0 : World.cell? wr ⟨w2.heap.size, 0, none⟩ = some (.int .i64 num) := bX.cell 0
              have bX_1 : World.cell? wr ⟨w2.heap.size, 1, none⟩ = some (.slice ax X.length cx) := bX.cell 1
              have bX_l := bX.lt
              go_wp2_with fail
              clear bX_0 bX_1 bX_l
              refine (stacks_Write other hx (Nts.nil _)).mono ?_
              rintro e w61 ⟨vh1, vsh1, rfl, oh1, hE60⟩
              replace bX := bX.ext hE60
              replace hx := hx.ext hE60
              have hF60 := Ext.trans (Ext.refl wr) hE60
              rw [hA.out] at oh1 ⊢
              dsimp only [Stk.zero] at oh1 ⊢
              have h1 : Sts _ _ X := oh1.sts
              obtain ⟨ah1, ch1, rfl, -⟩ := h1.form
              clear oh1
              have bX_0 : World.cell? w61 ⟨w2.heap.size, 0, none⟩ = some (.int .i64 num) := bX.cell 0
              have bX_1 : World.cell? w61 ⟨w2.heap.size, 1, none⟩ = some (.slice ax X.length cx) := bX.cell 1
              have bX_l := bX.lt
              go_wp2_with fail
              clear bX_0 bX_1 bX_l
              have bh1 := Box.new w61 70 #[.int .i64 num, .slice ah1 X.length ch1]
              have hx61 : Ext w61 (World.alloc w61 (.cells #[.int .i64 num, .slice ah1 X.length ch1] 70)) := (Ext.refl _).alloc _
              obtain ⟨w61b, hw61⟩ : ∃ x, World.alloc w61 (.cells #[.int .i64 num, .slice ah1 X.length ch1] 70) = x := ⟨_, rfl⟩
              rw [hw61] at bh1 hx61 ⊢
              clear hw61
              replace bX := bX.ext hx61
              replace hx := hx.ext hx61
              replace h1 := h1.ext hx61
              have hF61 := Ext.trans (hF60) hx61
              refine (stacks_Read other hx (Nts.nil _)).mono ?_
              rintro e w63 ⟨vh2, vsh2, rfl, oh2, hE62⟩
              replace bX := bX.ext hE62
              replace hx := hx.ext hE62
              replace h1 := h1.ext hE62
              replace bh1 := bh1.ext hE62
              have hF62 := Ext.trans (hF61) hE62
              rw [hB.out] at oh2 ⊢
              dsimp only [Stk.zero] at oh2 ⊢
              have h2 : Sts _ _ X := oh2.sts
              obtain ⟨ah2, ch2, rfl, -⟩ := h2.form
              clear oh2
              have bX_0 : World.cell? w63 ⟨w2.heap.size, 0, none⟩ = some (.int .i64 num) := bX.cell 0
              have bX_1 : World.cell? w63 ⟨w2.heap.size, 1, none⟩ = some (.slice ax X.length cx) := bX.cell 1
              have bX_l := bX.lt
              have bh1_0 : World.cell? w63 ⟨w61.heap.size, 0, none⟩ = some (.int .i64 num) := bh1.cell 0
              have bh1_1 : World.cell? w63 ⟨w61.heap.size, 1, none⟩ = some (.slice ah1 X.length ch1) := bh1.cell 1
              have bh1_l := bh1.lt
              go_wp2_with fail
              clear bX_0 bX_1 bX_l
              clear bh1_0 bh1_1 bh1_l
              have bh2 := Box.new w63 70 #[.int .i64 num, .slice ah2 X.length ch2]
              have hx63 : Ext w63 (World.alloc w63 (.cells #[.int .i64 num, .slice ah2 X.length ch2] 70)) := (Ext.refl _).alloc _
              obtain ⟨w63b, hw63⟩ : ∃ x, World.alloc w63 (.cells #[.int .i64 num, .slice ah2 X.length ch2] 70) = x := ⟨_, rfl⟩
              rw [hw63] at bh2 hx63 ⊢
              clear hw63
              replace bX := bX.ext hx63
              replace hx := hx.ext hx63
              replace h1 := h1.ext hx63
              replace bh1 := bh1.ext hx63
              replace h2 := h2.ext hx63
              have hF63 := Ext.trans (hF62) hx63
              refine (stacks_Read other hx (Nts.nil _)).mono ?_
              rintro e w65 ⟨vh3, vsh3, rfl, oh3, hE64⟩
              replace bX := bX.ext hE64
              replace hx := hx.ext hE64
              replace h1 := h1.ext hE64
              replace bh1 := bh1.ext hE64
              replace h2 := h2.ext hE64
              replace bh2 := bh2.ext hE64
              have hF64 := Ext.trans (hF63) hE64
              rw [hB.out] at oh3 ⊢
              dsimp only [Stk.zero] at oh3 ⊢
              have h3 : Sts _ _ X := oh3.sts
              obtain ⟨ah3, ch3, rfl, -⟩ := h3.form
              clear oh3
              have bX_0 : World.cell? w65 ⟨w2.heap.size, 0, none⟩ = some (.int .i64 num) := bX.cell 0
              have bX_1 : World.cell? w65 ⟨w2.heap.size, 1, none⟩ = some (.slice ax X.length cx) := bX.cell 1
              have bX_l := bX.lt
              have bh1_0 : World.cell? w65 ⟨w61.heap.size, 0, none⟩ = some (.int .i64 num) := bh1.cell 0
              have bh1_1 : World.cell? w65 ⟨w61.heap.size, 1, none⟩ = some (.slice ah1 X.length ch1) := bh1.cell 1
              have bh1_l := bh1.lt
              have bh2_0 : World.cell? w65 ⟨w63.heap.size, 0, none⟩ = some (.int .i64 num) := bh2.cell 0
              have bh2_1 : World.cell? w65 ⟨w63.heap.size, 1, none⟩ = some (.slice ah2 X.length ch2) := bh2.cell 1
              have bh2_l := bh2.lt
              go_wp2_with fail
              clear bX_0 bX_1 bX_l
              clear bh1_0 bh1_1 bh1_l
              clear bh2_0 bh2_1 bh2_l
              have bh3 := Box.new w65 70 #[.int .i64 num, .slice ah3 X.length ch3]
              have hx65 : Ext w65 (World.alloc w65 (.cells #[.int .i64 num, .slice ah3 X.length ch3] 70)) := (Ext.refl _).alloc _
              obtain ⟨w65b, hw65⟩ : ∃ x, World.alloc w65 (.cells #[.int .i64 num, .slice ah3 X.length ch3] 70) = x := ⟨_, rfl⟩
              rw [hw65] at bh3 hx65 ⊢
              clear hw65
              replace bX := bX.ext hx65
              replace hx := hx.ext hx65
              replace h1 := h1.ext hx65
              replace bh1 := bh1.ext hx65
              replace h2 := h2.ext hx65
              replace bh2 := bh2.ext hx65
              replace h3 := h3.ext hx65
              have hF65 := Ext.trans (hF64) hx65
              refine (ref33_Same h1 hx).mono ?_
              rintro e w67 ⟨rfl, hE66⟩
              replace bX := bX.ext hE66
              replace hx := hx.ext hE66
              replace h1 := h1.ext hE66
              replace bh1 := bh1.ext hE66
              replace h2 := h2.ext hE66
              replace bh2 := bh2.ext hE66
              replace h3 := h3.ext hE66
              replace bh3 := bh3.ext hE66
              have hF66 := Ext.trans (hF65) hE66
              have bX_0 : World.cell? w67 ⟨w2.heap.size, 0, none⟩ = some (.int .i64 num) := bX.cell 0
              have bX_1 : World.cell? w67 ⟨w2.heap.size, 1, none⟩ = some (.slice ax X.length cx) := bX.cell 1
              have bX_l := bX.lt
              have bh1_0 : World.cell? w67 ⟨w61.heap.size, 0, none⟩ = some (.int .i64 num) := bh1.cell 0
              have bh1_1 : World.cell? w67 ⟨w61.heap.size, 1, none⟩ = some (.slice ah1 X.length ch1) := bh1.cell 1
              have bh1_l := bh1.lt
              have bh2_0 : World.cell? w67 ⟨w63.heap.size, 0, none⟩ = some (.int .i64 num) := bh2.cell 0
              have bh2_1 : World.cell? w67 ⟨w63.heap.size, 1, none⟩ = some (.slice ah2 X.length ch2) := bh2.cell 1
              have bh2_l := bh2.lt
              have bh3_0 : World.cell? w67 ⟨w65.heap.size, 0, none⟩ = some (.int .i64 num) := bh3.cell 0
              have bh3_1 : World.cell? w67 ⟨w65.heap.size, 1, none⟩ = some (.slice ah3 X.length ch3) := bh3.cell 1
              have bh3_l := bh3.lt
              go_wp2_with fail
              clear bX_0 bX_1 bX_l
              clear bh1_0 bh1_1 bh1_l
              clear bh2_0 bh2_1 bh2_l
              clear bh3_0 bh3_1 bh3_l
              refine (ref33_Same h2 hx).mono ?_
              rintro e w68 ⟨rfl, hE67⟩
              replace bX := bX.ext hE67
              replace hx := hx.ext hE67
              replace h1 := h1.ext hE67
              replace bh1 := bh1.ext hE67
              replace h2 := h2.ext hE67
              replace bh2 := bh2.ext hE67
              replace h3 := h3.ext hE67
              replace bh3 := bh3.ext hE67
              have hF67 := Ext.trans (hF66) hE67
              go_wp2
              go_roundw
              case rel => exact ⟨j + 1, by omega, by omega, by go_num, hQ.trans (hF67)⟩
              case measure => simp [intOf]; omega
            · have hC := Lib.hid ((hall.out other false i j ⟨hlt, hj1, hjl⟩).trans (if_neg ho))
              have ho' : (other == tag) = false := by simp [ho]
              clear ho
              have bX_0 : World.cell? wr ⟨w2.heap.size, 0, none⟩ = some (.int .i64 num) := bX.cell 0
              have bX_1 : World.cell? wr ⟨w2.heap.size, 1, none⟩ = some (.slice ax X.length cx) := bX.cell 1
              have bX_l := bX.lt
              go_wp2_with fail
              clear bX_0 bX_1 bX_l
              refine (stacks_Write tag hx (Nts.nil _)).mono ?_
              rintro e w61 ⟨vh1, vsh1, rfl, oh1, hE60⟩
              replace bX := bX.ext hE60
              replace hx := hx.ext hE60
              have hF60 := Ext.trans (Ext.refl wr) hE60
              rw [hA.out] at oh1 ⊢
              dsimp only [Stk.zero] at oh1 ⊢
              have h1 : Sts _ _ X := oh1.sts
              obtain ⟨ah1, ch1, rfl, -⟩ := h1.form
              clear oh1
              have bX_0 : World.cell? w61 ⟨w2.heap.size, 0, none⟩ = some (.int .i64 num) := bX.cell 0
              have bX_1 : World.cell? w61 ⟨w2.heap.size, 1, none⟩ = some (.slice ax X.length cx) := bX.cell 1
              have bX_l := bX.lt
              go_wp2_with fail
              clear bX_0 bX_1 bX_l
              have bh1 := Box.new w61 70 #[.int .i64 num, .slice ah1 X.length ch1]
              have hx61 : Ext w61 (World.alloc w61 (.cells #[.int .i64 num, .slice ah1 X.length ch1] 70)) := (Ext.refl _).alloc _
              obtain ⟨w61b, hw61⟩ : ∃ x, World.alloc w61 (.cells #[.int .i64 num, .slice ah1 X.length ch1] 70) = x := ⟨_, rfl⟩
              rw [hw61] at bh1 hx61 ⊢
              clear hw61
              replace bX := bX.ext hx61
              replace hx := hx.ext hx61
              replace h1 := h1.ext hx61
              have hF61 := Ext.trans (hF60) hx61
              refine (stacks_Read tag hx (Nts.nil _)).mono ?_
              rintro e w63 ⟨vh2, vsh2, rfl, oh2, hE62⟩
              replace bX := bX.ext hE62
              replace hx := hx.ext hE62
              replace h1 := h1.ext hE62
              replace bh1 := bh1.ext hE62
              have hF62 := Ext.trans (hF61) hE62
              rw [hB.out] at oh2 ⊢
              dsimp only [Stk.zero] at oh2 ⊢
              have h2 : Sts _ _ X := oh2.sts
              obtain ⟨ah2, ch2, rfl, -⟩ := h2.form
              clear oh2
              have bX_0 : World.cell? w63 ⟨w2.heap.size, 0, none⟩ = some (.int .i64 num) := bX.cell 0
              have bX_1 : World.cell? w63 ⟨w2.heap.size, 1, none⟩ = some (.slice ax X.length cx) := bX.cell 1
              have bX_l := bX.lt
              have bh1_0 : World.cell? w63 ⟨w61.heap.size, 0, none⟩ = some (.int .i64 num) := bh1.cell 0
              have bh1_1 : World.cell? w63 ⟨w61.heap.size, 1, none⟩ = some (.slice ah1 X.length ch1) := bh1.cell 1
              have bh1_l := bh1.lt
              go_wp2_with fail
              clear bX_0 bX_1 bX_l
              clear bh1_0 bh1_1 bh1_l
              have bh2 := Box.new w63 70 #[.int .i64 num, .slice ah2 X.length ch2]
              have hx63 : Ext w63 (World.alloc w63 (.cells #[.int .i64 num, .slice ah2 X.length ch2] 70)) := (Ext.refl _).alloc _
              obtain ⟨w63b, hw63⟩ : ∃ x, World.alloc w63 (.cells #[.int .i64 num, .slice ah2 X.length ch2] 70) = x := ⟨_, rfl⟩
              rw [hw63] at bh2 hx63 ⊢
              clear hw63
              replace bX := bX.ext hx63
              replace hx := hx.ext hx63
              replace h1 := h1.ext hx63
              replace bh1 := bh1.ext hx63
              replace h2 := h2.ext hx63
              have hF63 := Ext.trans (hF62) hx63
              refine (stacks_Read other hx (Nts.nil _)).mono ?_
              rintro e w65 ⟨vh3, vsh3, rfl, oh3, hE64⟩
              replace bX := bX.ext hE64
              replace hx := hx.ext hE64
              replace h1 := h1.ext hE64
              replace bh1 := bh1.ext hE64
              replace h2 := h2.ext hE64
              replace bh2 := bh2.ext hE64
              have hF64 := Ext.trans (hF63) hE64
              rw [hC.out] at oh3 ⊢
              dsimp only [Stk.zero] at oh3 ⊢
              have h3 : Sts _ _ [] := oh3.sts
              obtain ⟨ah3, ch3, rfl, -⟩ := h3.form
              clear oh3
              have bX_0 : World.cell? w65 ⟨w2.heap.size, 0, none⟩ = some (.int .i64 num) := bX.cell 0
              have bX_1 : World.cell? w65 ⟨w2.heap.size, 1, none⟩ = some (.slice ax X.length cx) := bX.cell 1
              have bX_l := bX.lt
              have bh1_0 : World.cell? w65 ⟨w61.heap.size, 0, none⟩ = some (.int .i64 num) := bh1.cell 0
              have bh1_1 : World.cell? w65 ⟨w61.heap.size, 1, none⟩ = some (.slice ah1 X.length ch1) := bh1.cell 1
              have bh1_l := bh1.lt
              have bh2_0 : World.cell? w65 ⟨w63.heap.size, 0, none⟩ = some (.int .i64 num) := bh2.cell 0
              have bh2_1 : World.cell? w65 ⟨w63.heap.size, 1, none⟩ = some (.slice ah2 X.length ch2) := bh2.cell 1
              have bh2_l := bh2.lt
              go_wp2_with fail
              clear bX_0 bX_1 bX_l
              clear bh1_0 bh1_1 bh1_l
              clear bh2_0 bh2_1 bh2_l
              have bh3 := Box.new w65 70 #[.int .i64 0, .slice ah3 0 ch3]
              have hx65 : Ext w65 (World.alloc w65 (.cells #[.int .i64 0, .slice ah3 0 ch3] 70)) := (Ext.refl _).alloc _
              obtain ⟨w65b, hw65⟩ : ∃ x, World.alloc w65 (.cells #[.int .i64 0, .slice ah3 0 ch3] 70) = x := ⟨_, rfl⟩
              rw [hw65] at bh3 hx65 ⊢
              clear hw65
              replace bX := bX.ext hx65
              replace hx := hx.ext hx65
              replace h1 := h1.ext hx65
              replace bh1 := bh1.ext hx65
              replace h2 := h2.ext hx65
              replace bh2 := bh2.ext hx65
              replace h3 := h3.ext hx65
              have hF65 := Ext.trans (hF64) hx65
              refine (ref33_Same h1 hx).mono ?_
              rintro e w67 ⟨rfl, hE66⟩
              replace bX := bX.ext hE66
              replace hx := hx.ext hE66
              replace h1 := h1.ext hE66
              replace bh1 := bh1.ext hE66
              replace h2 := h2.ext hE66
              replace bh2 := bh2.ext hE66
              replace h3 := h3.ext hE66
              replace bh3 := bh3.ext hE66
              have hF66 := Ext.trans (hF65) hE66
              have bX_0 : World.cell? w67 ⟨w2.heap.size, 0, none⟩ = some (.int .i64 num) := bX.cell 0
              have bX_1 : World.cell? w67 ⟨w2.heap.size, 1, none⟩ = some (.slice ax X.length cx) := bX.cell 1
              have bX_l := bX.lt
              have bh1_0 : World.cell? w67 ⟨w61.heap.size, 0, none⟩ = some (.int .i64 num) := bh1.cell 0
              have bh1_1 : World.cell? w67 ⟨w61.heap.size, 1, none⟩ = some (.slice ah1 X.length ch1) := bh1.cell 1
              have bh1_l := bh1.lt
              have bh2_0 : World.cell? w67 ⟨w63.heap.size, 0, none⟩ = some (.int .i64 num) := bh2.cell 0
              have bh2_1 : World.cell? w67 ⟨w63.heap.size, 1, none⟩ = some (.slice ah2 X.length ch2) := bh2.cell 1
              have bh2_l := bh2.lt
              have bh3_0 : World.cell? w67 ⟨w65.heap.size, 0, none⟩ = some (.int .i64 0) := bh3.cell 0
              have bh3_1 : World.cell? w67 ⟨w65.heap.size, 1, none⟩ = some (.slice ah3 0 ch3) := bh3.cell 1
              have bh3_l := bh3.lt
              go_wp2_with fail
              clear bX_0 bX_1 bX_l
              clear bh1_0 bh1_1 bh1_l
              clear bh2_0 bh2_1 bh2_l
              clear bh3_0 bh3_1 bh3_l
              refine (ref33_Same h2 hx).mono ?_
              rintro e w68 ⟨rfl, hE67⟩
              replace bX := bX.ext hE67
              replace hx := hx.ext hE67
              replace h1 := h1.ext hE67
              replace bh1 := bh1.ext hE67
              replace h2 := h2.ext hE67
              replace bh2 := bh2.ext hE67
              replace h3 := h3.ext hE67
              replace bh3 := bh3.ext hE67
              have hF67 := Ext.trans (hF66) hE67
              go_wp2
              go_roundw
              case rel => exact ⟨j + 1, by omega, by omega, by go_num, hQ.trans (hF67)⟩
              case measure => simp [intOf]; omega
          · have hjl' : decide ((j : Int) ≤ (sz : Int) - (i : Int)) = false := decide_eq_false (by omega)
            clear hjl
            go_wp2
            go_roundw
            case rel => exact ⟨i + 1, by omega, by go_num, hQ⟩
            case measure => simp [intOf]; omega
      · have hlt' : decide (i < sz) = false := decide_eq_false hlt
        clear hlt
        go_wp2
        go_ret
        exact ⟨rfl, (hF3).trans hE⟩

set_option maxRecDepth 100000 in
theorem stacksNew_contract (H : Type) (enc : TypeId × Value → H) (W : World) (base : Nat) (args : Array Value) (ds gs : List (DataW H)) (before : List MemPlace)
    (hval0 : ∀ (j : Nat) t v, Tryd.f14.params[j]? = some t → args[j]? = some v → Value.okWide Tryd.prog W .any base t v)
    (hW : DataW.Whole enc Tryd.prog Tryd.f14.params.toList Rows.stacksNewSpec.vars false W args.toList ds gs before) (hL : laidMetH Tryd.prog Rows.stacksNewRow.laid W) :
    Calls Tryd.prog 14 args W fun e W' => ∃ v, e = .returned v ∧ Rows.stacksNewSpec.post enc Tryd.prog Tryd.f14 false true false false W args v W' := by
  have hval : ∀ (j : Nat) t v, Tryd.f14.params[j]? = some t → args[j]? = some v → Value.okWide Tryd.prog W .any base t v := hval0
  have hW' := hW
  obtain ⟨p, q, hA0, hV, rfl, hfz, hnd⟩ := hW
  have hA : DataW.TrodAll enc Tryd.prog W 0 (fun _ => true) true Tryd.f14.params.toList args.toList ds p := hA0
  rw [Tryd.params14] at hA hval
  obtain ⟨v0, vs0, d0, ds0, p0, q0, hargs, rfl, rfl, h0, r0⟩ := trodAll_cons hA
  obtain ⟨v1, vs1, d1, ds1, p1, q1, rfl, rfl, rfl, h1, r1⟩ := trodAll_cons r0
  obtain ⟨v2, vs2, d2, ds2, p2, q2, rfl, rfl, rfl, h2, r2⟩ := trodAll_cons r1
  obtain ⟨v3, vs3, d3, ds3, p3, q3, rfl, rfl, rfl, h3, r3⟩ := trodAll_cons r2
  obtain ⟨rfl, rfl, rfl⟩ := trodAll_nil r3
  obtain rfl : args = #[v0, v1, v2, v3] := by cases args; simp_all
  obtain ⟨x0, rfl, rfl, rfl, wf0⟩ := open_int Tryd.underlying3 (hval 0 3 v0 rfl rfl) h0
  obtain ⟨x1, rfl, rfl, rfl, wf1⟩ := open_int Tryd.underlying3 (hval 1 3 v1 rfl rfl) h1
  obtain ⟨x2, rfl, rfl, rfl, wf2⟩ := open_int Tryd.underlying3 (hval 2 3 v2 rfl rfl) h2
  obtain ⟨x3, rfl, rfl, rfl, wf3⟩ := open_int Tryd.underlying3 (hval 3 3 v3 rfl rfl) h3
  refine (stacksNew_walk (perms_of_laid hL) x0 x1 x2 x3).mono fun e W' ⟨he, hb⟩ => ?_
  subst he
  exact ⟨_, rfl, post_law TrydlaidOut (tb := 4) rfl Tryd.underlying4 (by kernel_rfl) rfl (fun ds hd => match ds, hd with | [a0, a1, a2, a3], _ => rfl) hW' hb⟩
theorem stacksNew_met (os : Os) : laidMet Tryd.prog Rows.stacksNewRow.laid ((doorWorld os).forCall (fun _ _ => 0) ⟨#[], #[.int .i64 0, .int .i64 0, .int .i64 0, .int .i64 0], []⟩).memory :=
  laidMet_of_run' 8 (by kernel_rfl) (by kernel_rfl)
theorem stacksNew_reads (os : Os) {H : Type} (enc : TypeId × Value → H) : ∃ places, DataW.whole enc Tryd.prog ((doorWorld os).forCall (fun _ _ => 0) ⟨#[], #[.int .i64 0, .int .i64 0, .int .i64 0, .int .i64 0], []⟩).memory Tryd.f14.params.toList Rows.stacksNewSpec.vars false (#[.int .i64 0, .int .i64 0, .int .i64 0, .int .i64 0] : Array Value).toList 8 = some ([.lit (.int .i64 0), .lit (.int .i64 0), .lit (.int .i64 0), .lit (.int .i64 0)], [], places) :=
  ⟨[], by kernel_rfl⟩
set_option maxRecDepth 100000 in
theorem stacksNew_lifted (os : Os) (started : os.Started) (H : Type) (enc : TypeId × Value → H) (F : Stop.Interp) :
    ReturnsInHanded {} Tryd.checked os 14 .any ((OpenSpec.ofChange Rows.stacksNewSpec).preRow enc Tryd.prog Tryd.f14 Rows.stacksNewRow.domain false Rows.stacksNewRow.laid) (((OpenSpec.ofChange Rows.stacksNewSpec).at F).post enc Tryd.prog Tryd.f14 false true false false) := by
  obtain ⟨places, hx⟩ := stacksNew_reads os enc
  refine returnsInHanded_of_row (C := Tryd.checked) (s := OpenSpec.ofChange Rows.stacksNewSpec) Trydown started (by kernel_rfl) Tryd.func14
    (witness_row_at (enc := enc) (C := Tryd.checked) false (doorWorld os) #[.int .i64 0, .int .i64 0, .int .i64 0, .int .i64 0] rfl (by kernel_rfl) (by kernel_rfl) (by kernel_rfl)
      (OpenSpec.preRow_of_cond 8 hx (by kernel_rfl) (fun k hk => by cases hk) (by kernel_rfl) (stacksNew_met os))) ?_
  intro W base args ds gs before hval hW _ _ _ hL _ _
  exact stacksNew_contract H enc W base args ds gs before hval hW hL
theorem stacksNew_said : Rows.StacksNewSaid :=
  OpenClaim.holds_of_cond 14 Tryd.f14 rfl rfl rfl rfl rfl rfl rfl ⟨rfl, rfl, rfl, rfl, rfl⟩ rfl rfl rfl rfl rfl (by kernel_rfl) Tryd.func14 (by kernel_rfl)
    (of_decide_eq_true (by kernel_rfl)) (by unfold Func.isWrapper; first | (rw [if_pos (by decide +kernel)]; kernel_rfl) | (rw [if_neg (by decide +kernel)]; exact ⟨rfl, rfl⟩))
    (fun os started H enc _ F => by rw [OpenClaim.pre_eq_preRow]; exact stacksNew_lifted os started H enc F)
theorem stacksNew_plain (f : FuncId) (fn : Func) (hf : Tryd.pinned.checked.prog.funcNamed "pawnshop/pawnshoplaw33.StacksNew" = some f) (hfn : Tryd.pinned.checked.prog.funcs[f]? = some fn) :
    false = Tryd.pinned.checked.prog.looks [] ∧ ∀ (j : Nat) t, fn.params[j]? = some t → Tryd.pinned.checked.prog.wantsStandIn t = false := by
  obtain rfl : f = 14 := Option.some.inj ((show Tryd.prog.funcNamed "pawnshop/pawnshoplaw33.StacksNew" = some 14 by kernel_rfl).symm.trans hf) |>.symm
  obtain rfl : fn = Tryd.f14 := (Option.some.inj (Tryd.func14.symm.trans hfn)).symm
  refine ⟨by kernel_rfl, fun j t ht => ?_⟩
  have hm : t ∈ Tryd.f14.params.toList := by simpa using Array.mem_of_getElem? ht
  have hall : (Tryd.f14.params.toList.all fun u => !Tryd.prog.wantsStandIn u) = true := by kernel_rfl
  exact (show Tryd.prog.wantsStandIn t = false by simpa using List.all_eq_true.1 hall t hm)
theorem stacksNew_card : Rows.StacksNewCardSaid :=
  Claim7.holds_tied_plain_at .later [] _ _ _ _ stacksNew_said (fun _ h => by cases h) (by kernel_rfl) (fun _ h => by cases h) stacksNew_row_tie rfl ⟨rfl, rfl⟩ (by kernel_rfl) rfl stacksNew_plain (by kernel_rfl)

end Go.Proofs.YtoobdejbcgkfdaaDoor
