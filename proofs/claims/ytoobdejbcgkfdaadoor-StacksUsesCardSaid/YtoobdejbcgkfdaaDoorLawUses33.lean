/- The statement StacksUses: for all arguments the call returns true. Condition: the laid permissions. (printed by gen/uses33.py) -/
import Derived.Test.YtoobdejbcgkfdaaDoorStkI
import Derived.Test.YtoobdejbcgkfdaaDoorReadK
import Derived.Test.YtoobdejbcgkfdaaDoorReadI
import Derived.Test.YtoobdejbcgkfdaaDoorClose
import Derived.Test.YtoobdejbcgkfdaaDoorDoor
namespace Go.Proofs.YtoobdejbcgkfdaaDoor
set_option maxRecDepth 100000
open Go.ChangeShapes Go.WideShapes Go.ChangeAt Go.RowKit

theorem greatK_small33 {l : List (List Item)} (h : greatK l = false) : l.length ≤ 1000000 ∧ ∀ x ∈ l, x.length ≤ 1000000 := by
  unfold greatK at h
  rw [Bool.or_eq_false_iff, decide_eq_false_iff_not] at h
  refine ⟨by omega, fun x hx => ?_⟩
  have := List.any_eq_false.1 h.1 x (by rw [List.take_of_length_le (by omega)]; exact hx)
  simp [wideS] at this
  omega

set_option maxRecDepth 100000 in
set_option maxHeartbeats 12800000 in
theorem stacksUses_walk {x : Stk} {run : List Int} {kind : Int} {s v : Value} {w : World} (hp : Perms w) (hk : u8B kind) (a n tag : Int) (it : Item) (hl : Sts w s x.cells) (hr : Nts w v run) :
    Calls Tryd.prog 10 #[.agg #[.int .i64 x.num, s], .int .i64 a, .int .i64 n, .int .u8 kind, .int .i64 tag, it.val, v] w fun e w' => e = .returned (.bool true) ∧ Ext w w' := by
  obtain ⟨num, l⟩ := x
  obtain ⟨p, t, c⟩ := it
  obtain ⟨q, cp, rfl, -⟩ := Sts.form hl
  obtain ⟨a2, cp2, rfl, -⟩ := hr.form
  have hF : Ext w ((w.alloc (.cells #[.int .i64 num, .slice q l.length cp] 70)).alloc (.cells #[.int .u8 p, .int .i64 t, .int .i64 c] 23)) := ((Ext.refl w).alloc _).alloc _
  have bM := (Box.new w 70 #[.int .i64 num, .slice q l.length cp]).ext ((Ext.refl _).alloc (.cells #[.int .u8 p, .int .i64 t, .int .i64 c] 23))
  have bI := Box.new (w.alloc (.cells #[.int .i64 num, .slice q l.length cp] 70)) 23 #[.int .u8 p, .int .i64 t, .int .i64 c]
  simp only [World.size_alloc] at bI
  have hL : Sts _ _ l := hl.ext hF
  have hR : Nts _ _ run := hr.ext hF
  have hP : Perms _ := hp.ext hF
  replace hk := Lib.hid hk
  unfold Item.val
  clear hl hr hp
  dsimp only at *
  obtain ⟨⟨⟨an, al⟩, au, ae⟩, hA⟩ : ∃ A, use33 ⟨num, l⟩ a n tag false run = A := ⟨_, rfl⟩
  obtain ⟨⟨⟨bn, bl⟩, bu, be⟩, hB⟩ : ∃ A, use33 ⟨num, l⟩ a n tag true run = A := ⟨_, rfl⟩
  obtain ⟨⟨⟨tn, tl⟩, tu, te⟩, hT⟩ : ∃ A, tag33 ⟨num, l⟩ a n kind tag ⟨p, t, c⟩ run = A := ⟨_, rfl⟩
  replace hA := Lib.hid hA
  replace hB := Lib.hid hB
  replace hT := Lib.hid hT
  obtain ⟨w0, hw0⟩ : ∃ z, ((w.alloc (.cells #[.int .i64 num, .slice q l.length cp] 70)).alloc (.cells #[.int .u8 p, .int .i64 t, .int .i64 c] 23)) = z := ⟨_, rfl⟩
  rw [hw0] at hF bM bI hL hR hP
  cases hg : greatK l
  · have hsm := Lib.hid (greatK_small33 hg)
    have hg' := Lib.hid hg
    clear hg
    rcases Nat.lt_or_ge 50 run.length with hlen | hlen
    · have hlt : decide (50 < run.length) = true := decide_eq_true hlen
      have hlt' : decide ((50 : Int) < (run.length : Int)) = true := decide_eq_true (by omega)
      have m0 : World.cell? w0 ⟨w.heap.size, 0, none⟩ = some (.int .i64 num) := bM.cell 0
      have m1 : World.cell? w0 ⟨w.heap.size, 1, none⟩ = some (.slice q l.length cp) := bM.cell 1
      go_enter Tryd.func10, Tryd.ntmps10
      go_wp2_with fail
      refine (ref33_Great hL).mono ?_
      rintro e w1 ⟨rfl, hE1⟩
      rw [hg'.out]
      go_wp2
      go_ret
      exact ⟨rfl, hF.trans hE1⟩
    have hlt : decide (50 < run.length) = false := decide_eq_false (by omega)
    have hlt' : decide ((50 : Int) < (run.length : Int)) = false := decide_eq_false (by omega)
    have m0 : World.cell? w0 ⟨w.heap.size, 0, none⟩ = some (.int .i64 num) := bM.cell 0
    have m1 : World.cell? w0 ⟨w.heap.size, 1, none⟩ = some (.slice q l.length cp) := bM.cell 1
    go_enter Tryd.func10, Tryd.ntmps10
    go_wp2_with fail
    clear hw0 m0 m1
    refine (ref33_Great hL).mono ?_
    rintro e w1 ⟨rfl, hE0⟩
    replace bM := bM.ext hE0
    replace bI := bI.ext hE0
    replace hL := hL.ext hE0
    replace hR := hR.ext hE0
    replace hP := hP.ext hE0
    have hF0 := Ext.trans (hF) hE0
    rw [hg'.out]
    have bM_0 : World.cell? w1 ⟨w.heap.size, 0, none⟩ = some (.int .i64 num) := bM.cell 0
    have bM_1 : World.cell? w1 ⟨w.heap.size, 1, none⟩ = some (.slice q l.length cp) := bM.cell 1
    have bM_l := bM.lt
    have bI_0 : World.cell? w1 ⟨w.heap.size + 1, 0, none⟩ = some (.int .u8 p) := bI.cell 0
    have bI_1 : World.cell? w1 ⟨w.heap.size + 1, 1, none⟩ = some (.int .i64 t) := bI.cell 1
    have bI_2 : World.cell? w1 ⟨w.heap.size + 1, 2, none⟩ = some (.int .i64 c) := bI.cell 2
    have bI_l := bI.lt
    go_wp2_with fail
    clear bM_0 bM_1 bM_l
    clear bI_0 bI_1 bI_2 bI_l
    refine (ref33_Twin hL hsm.out).mono ?_
    rintro e w2 ⟨vh, vsh, rfl, oh, hE1⟩
    replace bM := bM.ext hE1
    replace bI := bI.ext hE1
    replace hL := hL.ext hE1
    replace hR := hR.ext hE1
    replace hP := hP.ext hE1
    have hF1 := Ext.trans (hF0) hE1
    have hH : Sts _ _ l := oh.sts
    obtain ⟨ah, ch, rfl, -⟩ := hH.form
    clear oh
    dsimp only at hH ⊢
    have bM_0 : World.cell? w2 ⟨w.heap.size, 0, none⟩ = some (.int .i64 num) := bM.cell 0
    have bM_1 : World.cell? w2 ⟨w.heap.size, 1, none⟩ = some (.slice q l.length cp) := bM.cell 1
    have bM_l := bM.lt
    have bI_0 : World.cell? w2 ⟨w.heap.size + 1, 0, none⟩ = some (.int .u8 p) := bI.cell 0
    have bI_1 : World.cell? w2 ⟨w.heap.size + 1, 1, none⟩ = some (.int .i64 t) := bI.cell 1
    have bI_2 : World.cell? w2 ⟨w.heap.size + 1, 2, none⟩ = some (.int .i64 c) := bI.cell 2
    have bI_l := bI.lt
    go_wp2_with fail
    clear bM_0 bM_1 bM_l
    clear bI_0 bI_1 bI_2 bI_l
    have bH := Box.new w2 70 #[.int .i64 num, .slice ah l.length ch]
    have hx2 : Ext w2 (World.alloc w2 (.cells #[.int .i64 num, .slice ah l.length ch] 70)) := (Ext.refl _).alloc _
    obtain ⟨w2b, hw2⟩ : ∃ x, World.alloc w2 (.cells #[.int .i64 num, .slice ah l.length ch] 70) = x := ⟨_, rfl⟩
    rw [hw2] at bH hx2 ⊢
    clear hw2
    replace bM := bM.ext hx2
    replace bI := bI.ext hx2
    replace hL := hL.ext hx2
    replace hR := hR.ext hx2
    replace hP := hP.ext hx2
    replace hH := hH.ext hx2
    have hF2 := Ext.trans (hF1) hx2
    refine (stacks_Read tag hL hR).mono ?_
    rintro e w4 ⟨vh1, vsh1, rfl, oh1, hE3⟩
    replace bM := bM.ext hE3
    replace bI := bI.ext hE3
    replace hL := hL.ext hE3
    replace hR := hR.ext hE3
    replace hP := hP.ext hE3
    replace hH := hH.ext hE3
    replace bH := bH.ext hE3
    have hF3 := Ext.trans (hF2) hE3
    rw [hA.out] at oh1 ⊢
    dsimp only at oh1 ⊢
    have h1 : Sts _ _ al := oh1.sts
    obtain ⟨ah1, ch1, rfl, -⟩ := h1.form
    clear oh1
    have bM_0 : World.cell? w4 ⟨w.heap.size, 0, none⟩ = some (.int .i64 num) := bM.cell 0
    have bM_1 : World.cell? w4 ⟨w.heap.size, 1, none⟩ = some (.slice q l.length cp) := bM.cell 1
    have bM_l := bM.lt
    have bI_0 : World.cell? w4 ⟨w.heap.size + 1, 0, none⟩ = some (.int .u8 p) := bI.cell 0
    have bI_1 : World.cell? w4 ⟨w.heap.size + 1, 1, none⟩ = some (.int .i64 t) := bI.cell 1
    have bI_2 : World.cell? w4 ⟨w.heap.size + 1, 2, none⟩ = some (.int .i64 c) := bI.cell 2
    have bI_l := bI.lt
    have bH_0 : World.cell? w4 ⟨w2.heap.size, 0, none⟩ = some (.int .i64 num) := bH.cell 0
    have bH_1 : World.cell? w4 ⟨w2.heap.size, 1, none⟩ = some (.slice ah l.length ch) := bH.cell 1
    have bH_l := bH.lt
    go_wp2_with fail
    clear bM_0 bM_1 bM_l
    clear bI_0 bI_1 bI_2 bI_l
    clear bH_0 bH_1 bH_l
    have bh1 := Box.new w4 70 #[.int .i64 an, .slice ah1 al.length ch1]
    have hx4 : Ext w4 (World.alloc w4 (.cells #[.int .i64 an, .slice ah1 al.length ch1] 70)) := (Ext.refl _).alloc _
    obtain ⟨w4b, hw4⟩ : ∃ x, World.alloc w4 (.cells #[.int .i64 an, .slice ah1 al.length ch1] 70) = x := ⟨_, rfl⟩
    rw [hw4] at bh1 hx4 ⊢
    clear hw4
    replace bM := bM.ext hx4
    replace bI := bI.ext hx4
    replace hL := hL.ext hx4
    replace hR := hR.ext hx4
    replace hP := hP.ext hx4
    replace hH := hH.ext hx4
    replace bH := bH.ext hx4
    replace h1 := h1.ext hx4
    have hF4 := Ext.trans (hF3) hx4
    refine (ref33_Read tag hH hR).mono ?_
    rintro e w6 ⟨vh2, vsh2, rfl, oh2, hE5⟩
    replace bM := bM.ext hE5
    replace bI := bI.ext hE5
    replace hL := hL.ext hE5
    replace hR := hR.ext hE5
    replace hP := hP.ext hE5
    replace hH := hH.ext hE5
    replace bH := bH.ext hE5
    replace h1 := h1.ext hE5
    replace bh1 := bh1.ext hE5
    have hF5 := Ext.trans (hF4) hE5
    rw [hA.out] at oh2 ⊢
    dsimp only at oh2 ⊢
    have h2 : Sts _ _ al := oh2.sts
    obtain ⟨ah2, ch2, rfl, -⟩ := h2.form
    clear oh2
    have bM_0 : World.cell? w6 ⟨w.heap.size, 0, none⟩ = some (.int .i64 num) := bM.cell 0
    have bM_1 : World.cell? w6 ⟨w.heap.size, 1, none⟩ = some (.slice q l.length cp) := bM.cell 1
    have bM_l := bM.lt
    have bI_0 : World.cell? w6 ⟨w.heap.size + 1, 0, none⟩ = some (.int .u8 p) := bI.cell 0
    have bI_1 : World.cell? w6 ⟨w.heap.size + 1, 1, none⟩ = some (.int .i64 t) := bI.cell 1
    have bI_2 : World.cell? w6 ⟨w.heap.size + 1, 2, none⟩ = some (.int .i64 c) := bI.cell 2
    have bI_l := bI.lt
    have bH_0 : World.cell? w6 ⟨w2.heap.size, 0, none⟩ = some (.int .i64 num) := bH.cell 0
    have bH_1 : World.cell? w6 ⟨w2.heap.size, 1, none⟩ = some (.slice ah l.length ch) := bH.cell 1
    have bH_l := bH.lt
    have bh1_0 : World.cell? w6 ⟨w4.heap.size, 0, none⟩ = some (.int .i64 an) := bh1.cell 0
    have bh1_1 : World.cell? w6 ⟨w4.heap.size, 1, none⟩ = some (.slice ah1 al.length ch1) := bh1.cell 1
    have bh1_l := bh1.lt
    go_wp2_with fail
    clear bM_0 bM_1 bM_l
    clear bI_0 bI_1 bI_2 bI_l
    clear bH_0 bH_1 bH_l
    clear bh1_0 bh1_1 bh1_l
    have bh2 := Box.new w6 70 #[.int .i64 an, .slice ah2 al.length ch2]
    have hx6 : Ext w6 (World.alloc w6 (.cells #[.int .i64 an, .slice ah2 al.length ch2] 70)) := (Ext.refl _).alloc _
    obtain ⟨w6b, hw6⟩ : ∃ x, World.alloc w6 (.cells #[.int .i64 an, .slice ah2 al.length ch2] 70) = x := ⟨_, rfl⟩
    rw [hw6] at bh2 hx6 ⊢
    clear hw6
    replace bM := bM.ext hx6
    replace bI := bI.ext hx6
    replace hL := hL.ext hx6
    replace hR := hR.ext hx6
    replace hP := hP.ext hx6
    replace hH := hH.ext hx6
    replace bH := bH.ext hx6
    replace h1 := h1.ext hx6
    replace bh1 := bh1.ext hx6
    replace h2 := h2.ext hx6
    have hF6 := Ext.trans (hF5) hx6
    refine (stacks_Write tag hL hR).mono ?_
    rintro e w8 ⟨vh3, vsh3, rfl, oh3, hE7⟩
    replace bM := bM.ext hE7
    replace bI := bI.ext hE7
    replace hL := hL.ext hE7
    replace hR := hR.ext hE7
    replace hP := hP.ext hE7
    replace hH := hH.ext hE7
    replace bH := bH.ext hE7
    replace h1 := h1.ext hE7
    replace bh1 := bh1.ext hE7
    replace h2 := h2.ext hE7
    replace bh2 := bh2.ext hE7
    have hF7 := Ext.trans (hF6) hE7
    rw [hB.out] at oh3 ⊢
    dsimp only at oh3 ⊢
    have h3 : Sts _ _ bl := oh3.sts
    obtain ⟨ah3, ch3, rfl, -⟩ := h3.form
    clear oh3
    have bM_0 : World.cell? w8 ⟨w.heap.size, 0, none⟩ = some (.int .i64 num) := bM.cell 0
    have bM_1 : World.cell? w8 ⟨w.heap.size, 1, none⟩ = some (.slice q l.length cp) := bM.cell 1
    have bM_l := bM.lt
    have bI_0 : World.cell? w8 ⟨w.heap.size + 1, 0, none⟩ = some (.int .u8 p) := bI.cell 0
    have bI_1 : World.cell? w8 ⟨w.heap.size + 1, 1, none⟩ = some (.int .i64 t) := bI.cell 1
    have bI_2 : World.cell? w8 ⟨w.heap.size + 1, 2, none⟩ = some (.int .i64 c) := bI.cell 2
    have bI_l := bI.lt
    have bH_0 : World.cell? w8 ⟨w2.heap.size, 0, none⟩ = some (.int .i64 num) := bH.cell 0
    have bH_1 : World.cell? w8 ⟨w2.heap.size, 1, none⟩ = some (.slice ah l.length ch) := bH.cell 1
    have bH_l := bH.lt
    have bh1_0 : World.cell? w8 ⟨w4.heap.size, 0, none⟩ = some (.int .i64 an) := bh1.cell 0
    have bh1_1 : World.cell? w8 ⟨w4.heap.size, 1, none⟩ = some (.slice ah1 al.length ch1) := bh1.cell 1
    have bh1_l := bh1.lt
    have bh2_0 : World.cell? w8 ⟨w6.heap.size, 0, none⟩ = some (.int .i64 an) := bh2.cell 0
    have bh2_1 : World.cell? w8 ⟨w6.heap.size, 1, none⟩ = some (.slice ah2 al.length ch2) := bh2.cell 1
    have bh2_l := bh2.lt
    go_wp2_with fail
    clear bM_0 bM_1 bM_l
    clear bI_0 bI_1 bI_2 bI_l
    clear bH_0 bH_1 bH_l
    clear bh1_0 bh1_1 bh1_l
    clear bh2_0 bh2_1 bh2_l
    have bh3 := Box.new w8 70 #[.int .i64 bn, .slice ah3 bl.length ch3]
    have hx8 : Ext w8 (World.alloc w8 (.cells #[.int .i64 bn, .slice ah3 bl.length ch3] 70)) := (Ext.refl _).alloc _
    obtain ⟨w8b, hw8⟩ : ∃ x, World.alloc w8 (.cells #[.int .i64 bn, .slice ah3 bl.length ch3] 70) = x := ⟨_, rfl⟩
    rw [hw8] at bh3 hx8 ⊢
    clear hw8
    replace bM := bM.ext hx8
    replace bI := bI.ext hx8
    replace hL := hL.ext hx8
    replace hR := hR.ext hx8
    replace hP := hP.ext hx8
    replace hH := hH.ext hx8
    replace bH := bH.ext hx8
    replace h1 := h1.ext hx8
    replace bh1 := bh1.ext hx8
    replace h2 := h2.ext hx8
    replace bh2 := bh2.ext hx8
    replace h3 := h3.ext hx8
    have hF8 := Ext.trans (hF7) hx8
    refine (ref33_Write tag hH hR).mono ?_
    rintro e w10 ⟨vh4, vsh4, rfl, oh4, hE9⟩
    replace bM := bM.ext hE9
    replace bI := bI.ext hE9
    replace hL := hL.ext hE9
    replace hR := hR.ext hE9
    replace hP := hP.ext hE9
    replace hH := hH.ext hE9
    replace bH := bH.ext hE9
    replace h1 := h1.ext hE9
    replace bh1 := bh1.ext hE9
    replace h2 := h2.ext hE9
    replace bh2 := bh2.ext hE9
    replace h3 := h3.ext hE9
    replace bh3 := bh3.ext hE9
    have hF9 := Ext.trans (hF8) hE9
    rw [hB.out] at oh4 ⊢
    dsimp only at oh4 ⊢
    have h4 : Sts _ _ bl := oh4.sts
    obtain ⟨ah4, ch4, rfl, -⟩ := h4.form
    clear oh4
    have bM_0 : World.cell? w10 ⟨w.heap.size, 0, none⟩ = some (.int .i64 num) := bM.cell 0
    have bM_1 : World.cell? w10 ⟨w.heap.size, 1, none⟩ = some (.slice q l.length cp) := bM.cell 1
    have bM_l := bM.lt
    have bI_0 : World.cell? w10 ⟨w.heap.size + 1, 0, none⟩ = some (.int .u8 p) := bI.cell 0
    have bI_1 : World.cell? w10 ⟨w.heap.size + 1, 1, none⟩ = some (.int .i64 t) := bI.cell 1
    have bI_2 : World.cell? w10 ⟨w.heap.size + 1, 2, none⟩ = some (.int .i64 c) := bI.cell 2
    have bI_l := bI.lt
    have bH_0 : World.cell? w10 ⟨w2.heap.size, 0, none⟩ = some (.int .i64 num) := bH.cell 0
    have bH_1 : World.cell? w10 ⟨w2.heap.size, 1, none⟩ = some (.slice ah l.length ch) := bH.cell 1
    have bH_l := bH.lt
    have bh1_0 : World.cell? w10 ⟨w4.heap.size, 0, none⟩ = some (.int .i64 an) := bh1.cell 0
    have bh1_1 : World.cell? w10 ⟨w4.heap.size, 1, none⟩ = some (.slice ah1 al.length ch1) := bh1.cell 1
    have bh1_l := bh1.lt
    have bh2_0 : World.cell? w10 ⟨w6.heap.size, 0, none⟩ = some (.int .i64 an) := bh2.cell 0
    have bh2_1 : World.cell? w10 ⟨w6.heap.size, 1, none⟩ = some (.slice ah2 al.length ch2) := bh2.cell 1
    have bh2_l := bh2.lt
    have bh3_0 : World.cell? w10 ⟨w8.heap.size, 0, none⟩ = some (.int .i64 bn) := bh3.cell 0
    have bh3_1 : World.cell? w10 ⟨w8.heap.size, 1, none⟩ = some (.slice ah3 bl.length ch3) := bh3.cell 1
    have bh3_l := bh3.lt
    go_wp2_with fail
    clear bM_0 bM_1 bM_l
    clear bI_0 bI_1 bI_2 bI_l
    clear bH_0 bH_1 bH_l
    clear bh1_0 bh1_1 bh1_l
    clear bh2_0 bh2_1 bh2_l
    clear bh3_0 bh3_1 bh3_l
    have bh4 := Box.new w10 70 #[.int .i64 bn, .slice ah4 bl.length ch4]
    have hx10 : Ext w10 (World.alloc w10 (.cells #[.int .i64 bn, .slice ah4 bl.length ch4] 70)) := (Ext.refl _).alloc _
    obtain ⟨w10b, hw10⟩ : ∃ x, World.alloc w10 (.cells #[.int .i64 bn, .slice ah4 bl.length ch4] 70) = x := ⟨_, rfl⟩
    rw [hw10] at bh4 hx10 ⊢
    clear hw10
    replace bM := bM.ext hx10
    replace bI := bI.ext hx10
    replace hL := hL.ext hx10
    replace hR := hR.ext hx10
    replace hP := hP.ext hx10
    replace hH := hH.ext hx10
    replace bH := bH.ext hx10
    replace h1 := h1.ext hx10
    replace bh1 := bh1.ext hx10
    replace h2 := h2.ext hx10
    replace bh2 := bh2.ext hx10
    replace h3 := h3.ext hx10
    replace bh3 := bh3.ext hx10
    replace h4 := h4.ext hx10
    have hF10 := Ext.trans (hF9) hx10
    refine (stacks_Retag hP hk.out tag ⟨p, t, c⟩ hL hR).mono ?_
    rintro e w12 ⟨vh5, vsh5, rfl, oh5, hE11⟩
    replace bM := bM.ext hE11
    replace bI := bI.ext hE11
    replace hL := hL.ext hE11
    replace hR := hR.ext hE11
    replace hP := hP.ext hE11
    replace hH := hH.ext hE11
    replace bH := bH.ext hE11
    replace h1 := h1.ext hE11
    replace bh1 := bh1.ext hE11
    replace h2 := h2.ext hE11
    replace bh2 := bh2.ext hE11
    replace h3 := h3.ext hE11
    replace bh3 := bh3.ext hE11
    replace h4 := h4.ext hE11
    replace bh4 := bh4.ext hE11
    have hF11 := Ext.trans (hF10) hE11
    rw [hT.out] at oh5 ⊢
    dsimp only at oh5 ⊢
    have h5 : Sts _ _ tl := oh5.sts
    obtain ⟨ah5, ch5, rfl, -⟩ := h5.form
    clear oh5
    have bM_0 : World.cell? w12 ⟨w.heap.size, 0, none⟩ = some (.int .i64 num) := bM.cell 0
    have bM_1 : World.cell? w12 ⟨w.heap.size, 1, none⟩ = some (.slice q l.length cp) := bM.cell 1
    have bM_l := bM.lt
    have bI_0 : World.cell? w12 ⟨w.heap.size + 1, 0, none⟩ = some (.int .u8 p) := bI.cell 0
    have bI_1 : World.cell? w12 ⟨w.heap.size + 1, 1, none⟩ = some (.int .i64 t) := bI.cell 1
    have bI_2 : World.cell? w12 ⟨w.heap.size + 1, 2, none⟩ = some (.int .i64 c) := bI.cell 2
    have bI_l := bI.lt
    have bH_0 : World.cell? w12 ⟨w2.heap.size, 0, none⟩ = some (.int .i64 num) := bH.cell 0
    have bH_1 : World.cell? w12 ⟨w2.heap.size, 1, none⟩ = some (.slice ah l.length ch) := bH.cell 1
    have bH_l := bH.lt
    have bh1_0 : World.cell? w12 ⟨w4.heap.size, 0, none⟩ = some (.int .i64 an) := bh1.cell 0
    have bh1_1 : World.cell? w12 ⟨w4.heap.size, 1, none⟩ = some (.slice ah1 al.length ch1) := bh1.cell 1
    have bh1_l := bh1.lt
    have bh2_0 : World.cell? w12 ⟨w6.heap.size, 0, none⟩ = some (.int .i64 an) := bh2.cell 0
    have bh2_1 : World.cell? w12 ⟨w6.heap.size, 1, none⟩ = some (.slice ah2 al.length ch2) := bh2.cell 1
    have bh2_l := bh2.lt
    have bh3_0 : World.cell? w12 ⟨w8.heap.size, 0, none⟩ = some (.int .i64 bn) := bh3.cell 0
    have bh3_1 : World.cell? w12 ⟨w8.heap.size, 1, none⟩ = some (.slice ah3 bl.length ch3) := bh3.cell 1
    have bh3_l := bh3.lt
    have bh4_0 : World.cell? w12 ⟨w10.heap.size, 0, none⟩ = some (.int .i64 bn) := bh4.cell 0
    have bh4_1 : World.cell? w12 ⟨w10.heap.size, 1, none⟩ = some (.slice ah4 bl.length ch4) := bh4.cell 1
    have bh4_l := bh4.lt
    go_wp2_with fail
    clear bM_0 bM_1 bM_l
    clear bI_0 bI_1 bI_2 bI_l
    clear bH_0 bH_1 bH_l
    clear bh1_0 bh1_1 bh1_l
    clear bh2_0 bh2_1 bh2_l
    clear bh3_0 bh3_1 bh3_l
    clear bh4_0 bh4_1 bh4_l
    have bh5 := Box.new w12 70 #[.int .i64 tn, .slice ah5 tl.length ch5]
    have hx12 : Ext w12 (World.alloc w12 (.cells #[.int .i64 tn, .slice ah5 tl.length ch5] 70)) := (Ext.refl _).alloc _
    obtain ⟨w12b, hw12⟩ : ∃ x, World.alloc w12 (.cells #[.int .i64 tn, .slice ah5 tl.length ch5] 70) = x := ⟨_, rfl⟩
    rw [hw12] at bh5 hx12 ⊢
    clear hw12
    replace bM := bM.ext hx12
    replace bI := bI.ext hx12
    replace hL := hL.ext hx12
    replace hR := hR.ext hx12
    replace hP := hP.ext hx12
    replace hH := hH.ext hx12
    replace bH := bH.ext hx12
    replace h1 := h1.ext hx12
    replace bh1 := bh1.ext hx12
    replace h2 := h2.ext hx12
    replace bh2 := bh2.ext hx12
    replace h3 := h3.ext hx12
    replace bh3 := bh3.ext hx12
    replace h4 := h4.ext hx12
    replace bh4 := bh4.ext hx12
    replace h5 := h5.ext hx12
    have hF12 := Ext.trans (hF11) hx12
    refine (ref33_Retag hk.out tag ⟨p, t, c⟩ hH hR).mono ?_
    rintro e w14 ⟨vh6, vsh6, rfl, oh6, hE13⟩
    replace bM := bM.ext hE13
    replace bI := bI.ext hE13
    replace hL := hL.ext hE13
    replace hR := hR.ext hE13
    replace hP := hP.ext hE13
    replace hH := hH.ext hE13
    replace bH := bH.ext hE13
    replace h1 := h1.ext hE13
    replace bh1 := bh1.ext hE13
    replace h2 := h2.ext hE13
    replace bh2 := bh2.ext hE13
    replace h3 := h3.ext hE13
    replace bh3 := bh3.ext hE13
    replace h4 := h4.ext hE13
    replace bh4 := bh4.ext hE13
    replace h5 := h5.ext hE13
    replace bh5 := bh5.ext hE13
    have hF13 := Ext.trans (hF12) hE13
    rw [hT.out] at oh6 ⊢
    dsimp only at oh6 ⊢
    have h6 : Sts _ _ tl := oh6.sts
    obtain ⟨ah6, ch6, rfl, -⟩ := h6.form
    clear oh6
    have bM_0 : World.cell? w14 ⟨w.heap.size, 0, none⟩ = some (.int .i64 num) := bM.cell 0
    have bM_1 : World.cell? w14 ⟨w.heap.size, 1, none⟩ = some (.slice q l.length cp) := bM.cell 1
    have bM_l := bM.lt
    have bI_0 : World.cell? w14 ⟨w.heap.size + 1, 0, none⟩ = some (.int .u8 p) := bI.cell 0
    have bI_1 : World.cell? w14 ⟨w.heap.size + 1, 1, none⟩ = some (.int .i64 t) := bI.cell 1
    have bI_2 : World.cell? w14 ⟨w.heap.size + 1, 2, none⟩ = some (.int .i64 c) := bI.cell 2
    have bI_l := bI.lt
    have bH_0 : World.cell? w14 ⟨w2.heap.size, 0, none⟩ = some (.int .i64 num) := bH.cell 0
    have bH_1 : World.cell? w14 ⟨w2.heap.size, 1, none⟩ = some (.slice ah l.length ch) := bH.cell 1
    have bH_l := bH.lt
    have bh1_0 : World.cell? w14 ⟨w4.heap.size, 0, none⟩ = some (.int .i64 an) := bh1.cell 0
    have bh1_1 : World.cell? w14 ⟨w4.heap.size, 1, none⟩ = some (.slice ah1 al.length ch1) := bh1.cell 1
    have bh1_l := bh1.lt
    have bh2_0 : World.cell? w14 ⟨w6.heap.size, 0, none⟩ = some (.int .i64 an) := bh2.cell 0
    have bh2_1 : World.cell? w14 ⟨w6.heap.size, 1, none⟩ = some (.slice ah2 al.length ch2) := bh2.cell 1
    have bh2_l := bh2.lt
    have bh3_0 : World.cell? w14 ⟨w8.heap.size, 0, none⟩ = some (.int .i64 bn) := bh3.cell 0
    have bh3_1 : World.cell? w14 ⟨w8.heap.size, 1, none⟩ = some (.slice ah3 bl.length ch3) := bh3.cell 1
    have bh3_l := bh3.lt
    have bh4_0 : World.cell? w14 ⟨w10.heap.size, 0, none⟩ = some (.int .i64 bn) := bh4.cell 0
    have bh4_1 : World.cell? w14 ⟨w10.heap.size, 1, none⟩ = some (.slice ah4 bl.length ch4) := bh4.cell 1
    have bh4_l := bh4.lt
    have bh5_0 : World.cell? w14 ⟨w12.heap.size, 0, none⟩ = some (.int .i64 tn) := bh5.cell 0
    have bh5_1 : World.cell? w14 ⟨w12.heap.size, 1, none⟩ = some (.slice ah5 tl.length ch5) := bh5.cell 1
    have bh5_l := bh5.lt
    go_wp2_with fail
    clear bM_0 bM_1 bM_l
    clear bI_0 bI_1 bI_2 bI_l
    clear bH_0 bH_1 bH_l
    clear bh1_0 bh1_1 bh1_l
    clear bh2_0 bh2_1 bh2_l
    clear bh3_0 bh3_1 bh3_l
    clear bh4_0 bh4_1 bh4_l
    clear bh5_0 bh5_1 bh5_l
    have bh6 := Box.new w14 70 #[.int .i64 tn, .slice ah6 tl.length ch6]
    have hx14 : Ext w14 (World.alloc w14 (.cells #[.int .i64 tn, .slice ah6 tl.length ch6] 70)) := (Ext.refl _).alloc _
    obtain ⟨w14b, hw14⟩ : ∃ x, World.alloc w14 (.cells #[.int .i64 tn, .slice ah6 tl.length ch6] 70) = x := ⟨_, rfl⟩
    rw [hw14] at bh6 hx14 ⊢
    clear hw14
    replace bM := bM.ext hx14
    replace bI := bI.ext hx14
    replace hL := hL.ext hx14
    replace hR := hR.ext hx14
    replace hP := hP.ext hx14
    replace hH := hH.ext hx14
    replace bH := bH.ext hx14
    replace h1 := h1.ext hx14
    replace bh1 := bh1.ext hx14
    replace h2 := h2.ext hx14
    replace bh2 := bh2.ext hx14
    replace h3 := h3.ext hx14
    replace bh3 := bh3.ext hx14
    replace h4 := h4.ext hx14
    replace bh4 := bh4.ext hx14
    replace h5 := h5.ext hx14
    replace bh5 := bh5.ext hx14
    replace h6 := h6.ext hx14
    have hF14 := Ext.trans (hF13) hx14
    refine (ref33_Same h1 h2).mono ?_
    rintro e w16 ⟨rfl, hE15⟩
    replace bM := bM.ext hE15
    replace bI := bI.ext hE15
    replace hL := hL.ext hE15
    replace hR := hR.ext hE15
    replace hP := hP.ext hE15
    replace hH := hH.ext hE15
    replace bH := bH.ext hE15
    replace h1 := h1.ext hE15
    replace bh1 := bh1.ext hE15
    replace h2 := h2.ext hE15
    replace bh2 := bh2.ext hE15
    replace h3 := h3.ext hE15
    replace bh3 := bh3.ext hE15
    replace h4 := h4.ext hE15
    replace bh4 := bh4.ext hE15
    replace h5 := h5.ext hE15
    replace bh5 := bh5.ext hE15
    replace h6 := h6.ext hE15
    replace bh6 := bh6.ext hE15
    have hF15 := Ext.trans (hF14) hE15
    have bM_0 : World.cell? w16 ⟨w.heap.size, 0, none⟩ = some (.int .i64 num) := bM.cell 0
    have bM_1 : World.cell? w16 ⟨w.heap.size, 1, none⟩ = some (.slice q l.length cp) := bM.cell 1
    have bM_l := bM.lt
    have bI_0 : World.cell? w16 ⟨w.heap.size + 1, 0, none⟩ = some (.int .u8 p) := bI.cell 0
    have bI_1 : World.cell? w16 ⟨w.heap.size + 1, 1, none⟩ = some (.int .i64 t) := bI.cell 1
    have bI_2 : World.cell? w16 ⟨w.heap.size + 1, 2, none⟩ = some (.int .i64 c) := bI.cell 2
    have bI_l := bI.lt
    have bH_0 : World.cell? w16 ⟨w2.heap.size, 0, none⟩ = some (.int .i64 num) := bH.cell 0
    have bH_1 : World.cell? w16 ⟨w2.heap.size, 1, none⟩ = some (.slice ah l.length ch) := bH.cell 1
    have bH_l := bH.lt
    have bh1_0 : World.cell? w16 ⟨w4.heap.size, 0, none⟩ = some (.int .i64 an) := bh1.cell 0
    have bh1_1 : World.cell? w16 ⟨w4.heap.size, 1, none⟩ = some (.slice ah1 al.length ch1) := bh1.cell 1
    have bh1_l := bh1.lt
    have bh2_0 : World.cell? w16 ⟨w6.heap.size, 0, none⟩ = some (.int .i64 an) := bh2.cell 0
    have bh2_1 : World.cell? w16 ⟨w6.heap.size, 1, none⟩ = some (.slice ah2 al.length ch2) := bh2.cell 1
    have bh2_l := bh2.lt
    have bh3_0 : World.cell? w16 ⟨w8.heap.size, 0, none⟩ = some (.int .i64 bn) := bh3.cell 0
    have bh3_1 : World.cell? w16 ⟨w8.heap.size, 1, none⟩ = some (.slice ah3 bl.length ch3) := bh3.cell 1
    have bh3_l := bh3.lt
    have bh4_0 : World.cell? w16 ⟨w10.heap.size, 0, none⟩ = some (.int .i64 bn) := bh4.cell 0
    have bh4_1 : World.cell? w16 ⟨w10.heap.size, 1, none⟩ = some (.slice ah4 bl.length ch4) := bh4.cell 1
    have bh4_l := bh4.lt
    have bh5_0 : World.cell? w16 ⟨w12.heap.size, 0, none⟩ = some (.int .i64 tn) := bh5.cell 0
    have bh5_1 : World.cell? w16 ⟨w12.heap.size, 1, none⟩ = some (.slice ah5 tl.length ch5) := bh5.cell 1
    have bh5_l := bh5.lt
    have bh6_0 : World.cell? w16 ⟨w14.heap.size, 0, none⟩ = some (.int .i64 tn) := bh6.cell 0
    have bh6_1 : World.cell? w16 ⟨w14.heap.size, 1, none⟩ = some (.slice ah6 tl.length ch6) := bh6.cell 1
    have bh6_l := bh6.lt
    go_wp2_with fail
    clear bM_0 bM_1 bM_l
    clear bI_0 bI_1 bI_2 bI_l
    clear bH_0 bH_1 bH_l
    clear bh1_0 bh1_1 bh1_l
    clear bh2_0 bh2_1 bh2_l
    clear bh3_0 bh3_1 bh3_l
    clear bh4_0 bh4_1 bh4_l
    clear bh5_0 bh5_1 bh5_l
    clear bh6_0 bh6_1 bh6_l
    refine (ref33_Same h3 h4).mono ?_
    rintro e w17 ⟨rfl, hE16⟩
    replace bM := bM.ext hE16
    replace bI := bI.ext hE16
    replace hL := hL.ext hE16
    replace hR := hR.ext hE16
    replace hP := hP.ext hE16
    replace hH := hH.ext hE16
    replace bH := bH.ext hE16
    replace h1 := h1.ext hE16
    replace bh1 := bh1.ext hE16
    replace h2 := h2.ext hE16
    replace bh2 := bh2.ext hE16
    replace h3 := h3.ext hE16
    replace bh3 := bh3.ext hE16
    replace h4 := h4.ext hE16
    replace bh4 := bh4.ext hE16
    replace h5 := h5.ext hE16
    replace bh5 := bh5.ext hE16
    replace h6 := h6.ext hE16
    replace bh6 := bh6.ext hE16
    have hF16 := Ext.trans (hF15) hE16
    have bM_0 : World.cell? w17 ⟨w.heap.size, 0, none⟩ = some (.int .i64 num) := bM.cell 0
    have bM_1 : World.cell? w17 ⟨w.heap.size, 1, none⟩ = some (.slice q l.length cp) := bM.cell 1
    have bM_l := bM.lt
    have bI_0 : World.cell? w17 ⟨w.heap.size + 1, 0, none⟩ = some (.int .u8 p) := bI.cell 0
    have bI_1 : World.cell? w17 ⟨w.heap.size + 1, 1, none⟩ = some (.int .i64 t) := bI.cell 1
    have bI_2 : World.cell? w17 ⟨w.heap.size + 1, 2, none⟩ = some (.int .i64 c) := bI.cell 2
    have bI_l := bI.lt
    have bH_0 : World.cell? w17 ⟨w2.heap.size, 0, none⟩ = some (.int .i64 num) := bH.cell 0
    have bH_1 : World.cell? w17 ⟨w2.heap.size, 1, none⟩ = some (.slice ah l.length ch) := bH.cell 1
    have bH_l := bH.lt
    have bh1_0 : World.cell? w17 ⟨w4.heap.size, 0, none⟩ = some (.int .i64 an) := bh1.cell 0
    have bh1_1 : World.cell? w17 ⟨w4.heap.size, 1, none⟩ = some (.slice ah1 al.length ch1) := bh1.cell 1
    have bh1_l := bh1.lt
    have bh2_0 : World.cell? w17 ⟨w6.heap.size, 0, none⟩ = some (.int .i64 an) := bh2.cell 0
    have bh2_1 : World.cell? w17 ⟨w6.heap.size, 1, none⟩ = some (.slice ah2 al.length ch2) := bh2.cell 1
    have bh2_l := bh2.lt
    have bh3_0 : World.cell? w17 ⟨w8.heap.size, 0, none⟩ = some (.int .i64 bn) := bh3.cell 0
    have bh3_1 : World.cell? w17 ⟨w8.heap.size, 1, none⟩ = some (.slice ah3 bl.length ch3) := bh3.cell 1
    have bh3_l := bh3.lt
    have bh4_0 : World.cell? w17 ⟨w10.heap.size, 0, none⟩ = some (.int .i64 bn) := bh4.cell 0
    have bh4_1 : World.cell? w17 ⟨w10.heap.size, 1, none⟩ = some (.slice ah4 bl.length ch4) := bh4.cell 1
    have bh4_l := bh4.lt
    have bh5_0 : World.cell? w17 ⟨w12.heap.size, 0, none⟩ = some (.int .i64 tn) := bh5.cell 0
    have bh5_1 : World.cell? w17 ⟨w12.heap.size, 1, none⟩ = some (.slice ah5 tl.length ch5) := bh5.cell 1
    have bh5_l := bh5.lt
    have bh6_0 : World.cell? w17 ⟨w14.heap.size, 0, none⟩ = some (.int .i64 tn) := bh6.cell 0
    have bh6_1 : World.cell? w17 ⟨w14.heap.size, 1, none⟩ = some (.slice ah6 tl.length ch6) := bh6.cell 1
    have bh6_l := bh6.lt
    go_wp2_with fail
    clear bM_0 bM_1 bM_l
    clear bI_0 bI_1 bI_2 bI_l
    clear bH_0 bH_1 bH_l
    clear bh1_0 bh1_1 bh1_l
    clear bh2_0 bh2_1 bh2_l
    clear bh3_0 bh3_1 bh3_l
    clear bh4_0 bh4_1 bh4_l
    clear bh5_0 bh5_1 bh5_l
    clear bh6_0 bh6_1 bh6_l
    refine (ref33_Same h5 h6).mono ?_
    rintro e w18 ⟨rfl, hE17⟩
    replace bM := bM.ext hE17
    replace bI := bI.ext hE17
    replace hL := hL.ext hE17
    replace hR := hR.ext hE17
    replace hP := hP.ext hE17
    replace hH := hH.ext hE17
    replace bH := bH.ext hE17
    replace h1 := h1.ext hE17
    replace bh1 := bh1.ext hE17
    replace h2 := h2.ext hE17
    replace bh2 := bh2.ext hE17
    replace h3 := h3.ext hE17
    replace bh3 := bh3.ext hE17
    replace h4 := h4.ext hE17
    replace bh4 := bh4.ext hE17
    replace h5 := h5.ext hE17
    replace bh5 := bh5.ext hE17
    replace h6 := h6.ext hE17
    replace bh6 := bh6.ext hE17
    have hF17 := Ext.trans (hF16) hE17
    have bM_0 : World.cell? w18 ⟨w.heap.size, 0, none⟩ = some (.int .i64 num) := bM.cell 0
    have bM_1 : World.cell? w18 ⟨w.heap.size, 1, none⟩ = some (.slice q l.length cp) := bM.cell 1
    have bM_l := bM.lt
    have bI_0 : World.cell? w18 ⟨w.heap.size + 1, 0, none⟩ = some (.int .u8 p) := bI.cell 0
    have bI_1 : World.cell? w18 ⟨w.heap.size + 1, 1, none⟩ = some (.int .i64 t) := bI.cell 1
    have bI_2 : World.cell? w18 ⟨w.heap.size + 1, 2, none⟩ = some (.int .i64 c) := bI.cell 2
    have bI_l := bI.lt
    have bH_0 : World.cell? w18 ⟨w2.heap.size, 0, none⟩ = some (.int .i64 num) := bH.cell 0
    have bH_1 : World.cell? w18 ⟨w2.heap.size, 1, none⟩ = some (.slice ah l.length ch) := bH.cell 1
    have bH_l := bH.lt
    have bh1_0 : World.cell? w18 ⟨w4.heap.size, 0, none⟩ = some (.int .i64 an) := bh1.cell 0
    have bh1_1 : World.cell? w18 ⟨w4.heap.size, 1, none⟩ = some (.slice ah1 al.length ch1) := bh1.cell 1
    have bh1_l := bh1.lt
    have bh2_0 : World.cell? w18 ⟨w6.heap.size, 0, none⟩ = some (.int .i64 an) := bh2.cell 0
    have bh2_1 : World.cell? w18 ⟨w6.heap.size, 1, none⟩ = some (.slice ah2 al.length ch2) := bh2.cell 1
    have bh2_l := bh2.lt
    have bh3_0 : World.cell? w18 ⟨w8.heap.size, 0, none⟩ = some (.int .i64 bn) := bh3.cell 0
    have bh3_1 : World.cell? w18 ⟨w8.heap.size, 1, none⟩ = some (.slice ah3 bl.length ch3) := bh3.cell 1
    have bh3_l := bh3.lt
    have bh4_0 : World.cell? w18 ⟨w10.heap.size, 0, none⟩ = some (.int .i64 bn) := bh4.cell 0
    have bh4_1 : World.cell? w18 ⟨w10.heap.size, 1, none⟩ = some (.slice ah4 bl.length ch4) := bh4.cell 1
    have bh4_l := bh4.lt
    have bh5_0 : World.cell? w18 ⟨w12.heap.size, 0, none⟩ = some (.int .i64 tn) := bh5.cell 0
    have bh5_1 : World.cell? w18 ⟨w12.heap.size, 1, none⟩ = some (.slice ah5 tl.length ch5) := bh5.cell 1
    have bh5_l := bh5.lt
    have bh6_0 : World.cell? w18 ⟨w14.heap.size, 0, none⟩ = some (.int .i64 tn) := bh6.cell 0
    have bh6_1 : World.cell? w18 ⟨w14.heap.size, 1, none⟩ = some (.slice ah6 tl.length ch6) := bh6.cell 1
    have bh6_l := bh6.lt
    go_wp2_with fail
    clear bM_0 bM_1 bM_l
    clear bI_0 bI_1 bI_2 bI_l
    clear bH_0 bH_1 bH_l
    clear bh1_0 bh1_1 bh1_l
    clear bh2_0 bh2_1 bh2_l
    clear bh3_0 bh3_1 bh3_l
    clear bh4_0 bh4_1 bh4_l
    clear bh5_0 bh5_1 bh5_l
    clear bh6_0 bh6_1 bh6_l
    refine (ref33_Same hL hH).mono ?_
    rintro e w19 ⟨rfl, hE18⟩
    replace bM := bM.ext hE18
    replace bI := bI.ext hE18
    replace hL := hL.ext hE18
    replace hR := hR.ext hE18
    replace hP := hP.ext hE18
    replace hH := hH.ext hE18
    replace bH := bH.ext hE18
    replace h1 := h1.ext hE18
    replace bh1 := bh1.ext hE18
    replace h2 := h2.ext hE18
    replace bh2 := bh2.ext hE18
    replace h3 := h3.ext hE18
    replace bh3 := bh3.ext hE18
    replace h4 := h4.ext hE18
    replace bh4 := bh4.ext hE18
    replace h5 := h5.ext hE18
    replace bh5 := bh5.ext hE18
    replace h6 := h6.ext hE18
    replace bh6 := bh6.ext hE18
    have hF18 := Ext.trans (hF17) hE18
    go_wp2
    go_ret
    exact ⟨rfl, hF18⟩

  · have hg' := Lib.hid hg
    clear hg
    have m0 : World.cell? w0 ⟨w.heap.size, 0, none⟩ = some (.int .i64 num) := bM.cell 0
    have m1 : World.cell? w0 ⟨w.heap.size, 1, none⟩ = some (.slice q l.length cp) := bM.cell 1
    go_enter Tryd.func10, Tryd.ntmps10
    go_wp2_with fail
    refine (ref33_Great hL).mono ?_
    rintro e w1 ⟨rfl, hE1⟩
    rw [hg'.out]
    go_wp2
    go_ret
    exact ⟨rfl, hF.trans hE1⟩

set_option maxRecDepth 100000 in
theorem stacksUses_contract (H : Type) (enc : TypeId × Value → H) (W : World) (base : Nat) (args : Array Value) (ds gs : List (DataW H)) (before : List MemPlace)
    (hval0 : ∀ (j : Nat) t v, Tryd.f10.params[j]? = some t → args[j]? = some v → Value.okWide Tryd.prog W .any base t v)
    (hW : DataW.Whole enc Tryd.prog Tryd.f10.params.toList Rows.stacksUsesSpec.vars false W args.toList ds gs before) (hL : laidMetH Tryd.prog Rows.stacksUsesRow.laid W) :
    Calls Tryd.prog 10 args W fun e W' => ∃ v, e = .returned v ∧ Rows.stacksUsesSpec.post enc Tryd.prog Tryd.f10 false true false false W args v W' := by
  have hval : ∀ (j : Nat) t v, Tryd.f10.params[j]? = some t → args[j]? = some v → Value.okWide Tryd.prog W .any base t v := hval0
  have hW' := hW
  obtain ⟨p, q, hA0, hV, rfl, hfz, hnd⟩ := hW
  have hA : DataW.TrodAll enc Tryd.prog W 0 (fun _ => true) true Tryd.f10.params.toList args.toList ds p := hA0
  rw [Tryd.params10] at hA hval
  obtain ⟨v0, vs0, d0, ds0, p0, q0, hargs, rfl, rfl, h0, r0⟩ := trodAll_cons hA
  obtain ⟨v1, vs1, d1, ds1, p1, q1, rfl, rfl, rfl, h1, r1⟩ := trodAll_cons r0
  obtain ⟨v2, vs2, d2, ds2, p2, q2, rfl, rfl, rfl, h2, r2⟩ := trodAll_cons r1
  obtain ⟨v3, vs3, d3, ds3, p3, q3, rfl, rfl, rfl, h3, r3⟩ := trodAll_cons r2
  obtain ⟨v4, vs4, d4, ds4, p4, q4, rfl, rfl, rfl, h4, r4⟩ := trodAll_cons r3
  obtain ⟨v5, vs5, d5, ds5, p5, q5, rfl, rfl, rfl, h5, r5⟩ := trodAll_cons r4
  obtain ⟨v6, vs6, d6, ds6, p6, q6, rfl, rfl, rfl, h6, r6⟩ := trodAll_cons r5
  obtain ⟨rfl, rfl, rfl⟩ := trodAll_nil r6
  obtain rfl : args = #[v0, v1, v2, v3, v4, v5, v6] := by cases args; simp_all
  obtain ⟨x0, u0, rfl, k0, wf0⟩ := open_stacks (hval 0 70 v0 rfl rfl) h0
  obtain ⟨x1, rfl, rfl, rfl, wf1⟩ := open_int Tryd.underlying3 (hval 1 3 v1 rfl rfl) h1
  obtain ⟨x2, rfl, rfl, rfl, wf2⟩ := open_int Tryd.underlying3 (hval 2 3 v2 rfl rfl) h2
  obtain ⟨x3, rfl, rfl, rfl, wf3⟩ := open_int Tryd.underlying5 (hval 3 5 v3 rfl rfl) h3
  obtain ⟨x4, rfl, rfl, rfl, wf4⟩ := open_int Tryd.underlying3 (hval 4 3 v4 rfl rfl) h4
  obtain ⟨x5, rfl, wf5⟩ := open_item (hval 5 23 v5 rfl rfl) h5
  obtain ⟨x6, k6, wf6⟩ := open_ints' Tryd.underlying37 (hval 6 37 v6 rfl rfl) h6
  refine (stacksUses_walk (perms_of_laid hL) (u8B_of wf3) x1 x2 x4 x5 k0 k6).mono fun e W' ⟨he, hb⟩ => ?_
  subst he
  exact ⟨_, rfl, post_law TrydlaidOut (tb := 4) rfl Tryd.underlying4 (by kernel_rfl) rfl (fun ds hd => match ds, hd with | [a0, a1, a2, a3, a4, a5, a6], _ => rfl) hW' hb⟩
theorem stacksUses_met (os : Os) : laidMet Tryd.prog Rows.stacksUsesRow.laid ((doorWorld os).forCall (fun _ _ => 0) ⟨#[], #[.agg #[.int .i64 0, .slice none 0 0], .int .i64 0, .int .i64 0, .int .u8 0, .int .i64 0, .agg #[.int .u8 0, .int .i64 0, .int .i64 0], .slice none 0 0], []⟩).memory :=
  laidMet_of_run' 8 (by kernel_rfl) (by kernel_rfl)
theorem stacksUses_reads (os : Os) {H : Type} (enc : TypeId × Value → H) : ∃ places, DataW.whole enc Tryd.prog ((doorWorld os).forCall (fun _ _ => 0) ⟨#[], #[.agg #[.int .i64 0, .slice none 0 0], .int .i64 0, .int .i64 0, .int .u8 0, .int .i64 0, .agg #[.int .u8 0, .int .i64 0, .int .i64 0], .slice none 0 0], []⟩).memory Tryd.f10.params.toList Rows.stacksUsesSpec.vars false (#[.agg #[.int .i64 0, .slice none 0 0], .int .i64 0, .int .i64 0, .int .u8 0, .int .i64 0, .agg #[.int .u8 0, .int .i64 0, .int .i64 0], .slice none 0 0] : Array Value).toList 8 = some ([.agg [.lit (.int .i64 0), .nil], .lit (.int .i64 0), .lit (.int .i64 0), .lit (.int .u8 0), .lit (.int .i64 0), .agg [.lit (.int .u8 0), .lit (.int .i64 0), .lit (.int .i64 0)], .nil], [], places) :=
  ⟨[], by kernel_rfl⟩
set_option maxRecDepth 100000 in
theorem stacksUses_lifted (os : Os) (started : os.Started) (H : Type) (enc : TypeId × Value → H) (F : Stop.Interp) :
    ReturnsInHanded {} Tryd.checked os 10 .any ((OpenSpec.ofChange Rows.stacksUsesSpec).preRow enc Tryd.prog Tryd.f10 Rows.stacksUsesRow.domain false Rows.stacksUsesRow.laid) (((OpenSpec.ofChange Rows.stacksUsesSpec).at F).post enc Tryd.prog Tryd.f10 false true false false) := by
  obtain ⟨places, hx⟩ := stacksUses_reads os enc
  refine returnsInHanded_of_row (C := Tryd.checked) (s := OpenSpec.ofChange Rows.stacksUsesSpec) Trydown started (by kernel_rfl) Tryd.func10
    (witness_row_at (enc := enc) (C := Tryd.checked) false (doorWorld os) #[.agg #[.int .i64 0, .slice none 0 0], .int .i64 0, .int .i64 0, .int .u8 0, .int .i64 0, .agg #[.int .u8 0, .int .i64 0, .int .i64 0], .slice none 0 0] rfl (by kernel_rfl) (by kernel_rfl) (by kernel_rfl)
      (OpenSpec.preRow_of_cond 8 hx (by kernel_rfl) (fun k hk => by cases hk) (by kernel_rfl) (stacksUses_met os))) ?_
  intro W base args ds gs before hval hW _ _ _ hL _ _
  exact stacksUses_contract H enc W base args ds gs before hval hW hL
theorem stacksUses_said : Rows.StacksUsesSaid :=
  OpenClaim.holds_of_cond 10 Tryd.f10 rfl rfl rfl rfl rfl rfl rfl ⟨rfl, rfl, rfl, rfl, rfl⟩ rfl rfl rfl rfl rfl (by kernel_rfl) Tryd.func10 (by kernel_rfl)
    (of_decide_eq_true (by kernel_rfl)) (by unfold Func.isWrapper; first | (rw [if_pos (by decide +kernel)]; kernel_rfl) | (rw [if_neg (by decide +kernel)]; exact ⟨rfl, rfl⟩))
    (fun os started H enc _ F => by rw [OpenClaim.pre_eq_preRow]; exact stacksUses_lifted os started H enc F)
theorem stacksUses_plain (f : FuncId) (fn : Func) (hf : Tryd.pinned.checked.prog.funcNamed "pawnshop/pawnshoplaw33.StacksUses" = some f) (hfn : Tryd.pinned.checked.prog.funcs[f]? = some fn) :
    false = Tryd.pinned.checked.prog.looks [] ∧ ∀ (j : Nat) t, fn.params[j]? = some t → Tryd.pinned.checked.prog.wantsStandIn t = false := by
  obtain rfl : f = 10 := Option.some.inj ((show Tryd.prog.funcNamed "pawnshop/pawnshoplaw33.StacksUses" = some 10 by kernel_rfl).symm.trans hf) |>.symm
  obtain rfl : fn = Tryd.f10 := (Option.some.inj (Tryd.func10.symm.trans hfn)).symm
  refine ⟨by kernel_rfl, fun j t ht => ?_⟩
  have hm : t ∈ Tryd.f10.params.toList := by simpa using Array.mem_of_getElem? ht
  have hall : (Tryd.f10.params.toList.all fun u => !Tryd.prog.wantsStandIn u) = true := by kernel_rfl
  exact (show Tryd.prog.wantsStandIn t = false by simpa using List.all_eq_true.1 hall t hm)
theorem stacksUses_card : Rows.StacksUsesCardSaid :=
  Claim7.holds_tied_plain_at .later [] _ _ _ _ stacksUses_said (fun _ h => by cases h) (by kernel_rfl) (fun _ h => by cases h) stacksUses_row_tie rfl ⟨rfl, rfl⟩ (by kernel_rfl) rfl stacksUses_plain (by kernel_rfl)

end Go.Proofs.YtoobdejbcgkfdaaDoor
