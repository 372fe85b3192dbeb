/- The chapter's example of layer 33. (printed by gen/law33b.py) -/
import Derived.Test.YtkbocenpkdaogaaDoorStkJ
namespace Go.Proofs.YtkbocenpkdaogaaDoor
set_option maxRecDepth 100000
open Go.RowKit

theorem alive33_data : ∃ (X Y Z : List (List Item)) (z0 z1 : List Item), newK 4 2 1 = (⟨4, X⟩, 0) ∧ tag33 ⟨4, X⟩ 0 2 2 1 ⟨0, 2, 0⟩ [] = (⟨4, Y⟩, 0, 0) ∧ tag33 ⟨4, Y⟩ 0 1 2 2 ⟨0, 3, 0⟩ [] = (⟨4, Z⟩, 0, 0) ∧ Z.length = 2 ∧ Z[0]? = some z0 ∧ Z[1]? = some z1 ∧ z0.length = 3 ∧ z1.length = 2 ∧
    use33 ⟨4, Z⟩ 0 2 2 false [] = (⟨4, Y⟩, 0, 0) ∧ use33 ⟨4, Y⟩ 0 1 3 false [] = (Stk.zero, 1, 0) :=
  ⟨[[⟨1, 1, 0⟩], [⟨1, 1, 0⟩]], [[⟨1, 1, 0⟩, ⟨1, 2, 0⟩], [⟨1, 1, 0⟩, ⟨1, 2, 0⟩]], [[⟨1, 1, 0⟩, ⟨1, 2, 0⟩, ⟨1, 3, 0⟩], [⟨1, 1, 0⟩, ⟨1, 2, 0⟩]], [⟨1, 1, 0⟩, ⟨1, 2, 0⟩, ⟨1, 3, 0⟩], [⟨1, 1, 0⟩, ⟨1, 2, 0⟩], by decide +kernel⟩

set_option maxRecDepth 100000 in
set_option maxHeartbeats 6400000 in
theorem law33_alive {w : World} (hp : Perms w) : Calls Tryd.prog 35 #[] w fun e w' => e = .returned (.bool true) ∧ Ext w w' := by
  obtain ⟨X, Y, Z, z0, z1, e1, e2, e3, hz, z0e, z1e, hz0, hz1, e4, e5⟩ := alive33_data
  replace e1 := Lib.hid e1
  replace e2 := Lib.hid e2
  replace e3 := Lib.hid e3
  replace e4 := Lib.hid e4
  replace e5 := Lib.hid e5
  replace hz := Lib.hid hz
  replace hz0 := Lib.hid hz0
  replace hz1 := Lib.hid hz1
  replace z0e := Lib.hid z0e
  replace z1e := Lib.hid z1e
  go_enter Tryd.func35, Tryd.ntmps35
  go_wp2_with fail
  refine (stacks_New 4 2 1 _).mono ?_
  rintro e w1 ⟨vh1, vsh1, rfl, oh1, hE0⟩
  replace hp := hp.ext hE0
  have hF0 := Ext.trans (Ext.refl w) hE0
  rw [e1.out] at oh1 ⊢
  dsimp only at oh1 ⊢
  have h1 : Sts _ _ X := oh1.sts
  obtain ⟨ah1, ch1, rfl, -⟩ := h1.form
  clear oh1
  go_wp2_with fail
  have bh1 := Box.new w1 56 #[.int .i64 4, .slice ah1 X.length ch1]
  have hx1 : Ext w1 (World.alloc w1 (.cells #[.int .i64 4, .slice ah1 X.length ch1] 56)) := (Ext.refl _).alloc _
  obtain ⟨w1b, hw1⟩ : ∃ x, World.alloc w1 (.cells #[.int .i64 4, .slice ah1 X.length ch1] 56) = x := ⟨_, rfl⟩
  rw [hw1] at bh1 hx1 ⊢
  clear hw1
  replace hp := hp.ext hx1
  replace h1 := h1.ext hx1
  have hF1 := Ext.trans (hF0) hx1
  refine (stacks_Retag hp ⟨by decide, by decide⟩ 1 ⟨0, 2, 0⟩ h1 (Nts.nil _)).mono ?_
  rintro e w3 ⟨vh2, vsh2, rfl, oh2, hE2⟩
  replace hp := hp.ext hE2
  replace h1 := h1.ext hE2
  replace bh1 := bh1.ext hE2
  have hF2 := Ext.trans (hF1) hE2
  rw [e2.out] at oh2 ⊢
  dsimp only at oh2 ⊢
  have h2 : Sts _ _ Y := oh2.sts
  obtain ⟨ah2, ch2, rfl, -⟩ := h2.form
  clear oh2
  have bh1_0 : World.cell? w3 ⟨w1.heap.size, 0, none⟩ = some (.int .i64 4) := bh1.cell 0
  have bh1_1 : World.cell? w3 ⟨w1.heap.size, 1, none⟩ = some (.slice ah1 X.length ch1) := bh1.cell 1
  have bh1_l := bh1.lt
  go_wp2_with fail
  clear bh1_0 bh1_1 bh1_l
  have bh2 := Box.new w3 56 #[.int .i64 4, .slice ah2 Y.length ch2]
  have hx3 : Ext w3 (World.alloc w3 (.cells #[.int .i64 4, .slice ah2 Y.length ch2] 56)) := (Ext.refl _).alloc _
  obtain ⟨w3b, hw3⟩ : ∃ x, World.alloc w3 (.cells #[.int .i64 4, .slice ah2 Y.length ch2] 56) = x := ⟨_, rfl⟩
  rw [hw3] at bh2 hx3 ⊢
  clear hw3
  replace hp := hp.ext hx3
  replace h1 := h1.ext hx3
  replace bh1 := bh1.ext hx3
  replace h2 := h2.ext hx3
  have hF3 := Ext.trans (hF2) hx3
  refine (stacks_Retag hp ⟨by decide, by decide⟩ 2 ⟨0, 3, 0⟩ h2 (Nts.nil _)).mono ?_
  rintro e w5 ⟨v3, vs3, rfl, o3, hE4⟩
  replace hp := hp.ext hE4
  replace h1 := h1.ext hE4
  replace bh1 := bh1.ext hE4
  replace h2 := h2.ext hE4
  replace bh2 := bh2.ext hE4
  have hF4 := Ext.trans (hF3) hE4
  rw [e3.out] at o3 ⊢
  dsimp only at o3 ⊢
  have h3 : Sts _ _ Z := o3.sts
  obtain ⟨a3, c3, rfl, -⟩ := h3.form
  clear o3
  obtain ⟨zb, zo, zs, rfl, zlt, zc0, zi0⟩ := h3.cell z0e.out
  obtain ⟨zb', zo', zs1, ze, zlt1, zc1, zi1⟩ := h3.cell z1e.out
  cases ze
  obtain ⟨p0, q0, rfl, -⟩ := zi0.form
  obtain ⟨p1, q1, rfl, -⟩ := zi1.form
  have y0 := ((Ext.refl _).alloc (.cells #[.int .i64 4, .slice (some ⟨zb, zo, none⟩) Z.length c3] 56)).cell zc0
  have y1 := ((Ext.refl _).alloc (.cells #[.int .i64 4, .slice (some ⟨zb, zo, none⟩) Z.length c3] 56)).cell zc1
  clear zi0 zi1 zlt zlt1 zc0 zc1
  rw [Nat.add_zero] at y0
  have k0 : 0 < Z.length := by rw [hz.out]; decide
  have k1 : 1 < Z.length := by rw [hz.out]; decide
  have t2 : ((Z.length : Int) != 2) = false := by rw [hz.out]; rfl
  have t3 : ((z0.length : Int) != 3) = false := by rw [hz0.out]; rfl
  have t4 : ((z1.length : Int) != 2) = false := by rw [hz1.out]; rfl
  have bh1_0 : World.cell? w5 ⟨w1.heap.size, 0, none⟩ = some (.int .i64 4) := bh1.cell 0
  have bh1_1 : World.cell? w5 ⟨w1.heap.size, 1, none⟩ = some (.slice ah1 X.length ch1) := bh1.cell 1
  have bh1_l := bh1.lt
  have bh2_0 : World.cell? w5 ⟨w3.heap.size, 0, none⟩ = some (.int .i64 4) := bh2.cell 0
  have bh2_1 : World.cell? w5 ⟨w3.heap.size, 1, none⟩ = some (.slice ah2 Y.length ch2) := bh2.cell 1
  have bh2_l := bh2.lt
  go_wp2_with fail
  clear bh1_0 bh1_1 bh1_l
  clear bh2_0 bh2_1 bh2_l
  have bh3 := Box.new w5 56 #[.int .i64 4, .slice (some ⟨zb, zo, none⟩) Z.length c3]
  have hx5 : Ext w5 (World.alloc w5 (.cells #[.int .i64 4, .slice (some ⟨zb, zo, none⟩) Z.length c3] 56)) := (Ext.refl _).alloc _
  obtain ⟨w5b, hw5⟩ : ∃ x, World.alloc w5 (.cells #[.int .i64 4, .slice (some ⟨zb, zo, none⟩) Z.length c3] 56) = x := ⟨_, rfl⟩
  rw [hw5] at bh3 hx5 ⊢
  clear hw5
  replace hp := hp.ext hx5
  replace h1 := h1.ext hx5
  replace bh1 := bh1.ext hx5
  replace h2 := h2.ext hx5
  replace bh2 := bh2.ext hx5
  replace h3 := h3.ext hx5
  have hF5 := Ext.trans (hF4) hx5
  clear y0 y1 k0 k1 t2 t3 t4
  refine (stacks_Read 2 h3 (Nts.nil _)).mono ?_
  rintro e w7 ⟨vh4, vsh4, rfl, oh4, hE6⟩
  replace hp := hp.ext hE6
  replace h1 := h1.ext hE6
  replace bh1 := bh1.ext hE6
  replace h2 := h2.ext hE6
  replace bh2 := bh2.ext hE6
  replace h3 := h3.ext hE6
  replace bh3 := bh3.ext hE6
  have hF6 := Ext.trans (hF5) hE6
  rw [e4.out] at oh4 ⊢
  dsimp only at oh4 ⊢
  have h4 : Sts _ _ Y := oh4.sts
  obtain ⟨ah4, ch4, rfl, -⟩ := h4.form
  clear oh4
  have bh1_0 : World.cell? w7 ⟨w1.heap.size, 0, none⟩ = some (.int .i64 4) := bh1.cell 0
  have bh1_1 : World.cell? w7 ⟨w1.heap.size, 1, none⟩ = some (.slice ah1 X.length ch1) := bh1.cell 1
  have bh1_l := bh1.lt
  have bh2_0 : World.cell? w7 ⟨w3.heap.size, 0, none⟩ = some (.int .i64 4) := bh2.cell 0
  have bh2_1 : World.cell? w7 ⟨w3.heap.size, 1, none⟩ = some (.slice ah2 Y.length ch2) := bh2.cell 1
  have bh2_l := bh2.lt
  have bh3_0 : World.cell? w7 ⟨w5.heap.size, 0, none⟩ = some (.int .i64 4) := bh3.cell 0
  have bh3_1 : World.cell? w7 ⟨w5.heap.size, 1, none⟩ = some (.slice (some ⟨zb, zo, none⟩) Z.length c3) := bh3.cell 1
  have bh3_l := bh3.lt
  go_wp2_with fail
  clear bh1_0 bh1_1 bh1_l
  clear bh2_0 bh2_1 bh2_l
  clear bh3_0 bh3_1 bh3_l
  have bh4 := Box.new w7 56 #[.int .i64 4, .slice ah4 Y.length ch4]
  have hx7 : Ext w7 (World.alloc w7 (.cells #[.int .i64 4, .slice ah4 Y.length ch4] 56)) := (Ext.refl _).alloc _
  obtain ⟨w7b, hw7⟩ : ∃ x, World.alloc w7 (.cells #[.int .i64 4, .slice ah4 Y.length ch4] 56) = x := ⟨_, rfl⟩
  rw [hw7] at bh4 hx7 ⊢
  clear hw7
  replace hp := hp.ext hx7
  replace h1 := h1.ext hx7
  replace bh1 := bh1.ext hx7
  replace h2 := h2.ext hx7
  replace bh2 := bh2.ext hx7
  replace h3 := h3.ext hx7
  replace bh3 := bh3.ext hx7
  replace h4 := h4.ext hx7
  have hF7 := Ext.trans (hF6) hx7
  refine (stacks_Read 3 h4 (Nts.nil _)).mono ?_
  rintro e w9 ⟨v5, vs5, rfl, o5, hE8⟩
  replace hp := hp.ext hE8
  replace h1 := h1.ext hE8
  replace bh1 := bh1.ext hE8
  replace h2 := h2.ext hE8
  replace bh2 := bh2.ext hE8
  replace h3 := h3.ext hE8
  replace bh3 := bh3.ext hE8
  replace h4 := h4.ext hE8
  replace bh4 := bh4.ext hE8
  have hF8 := Ext.trans (hF7) hE8
  rw [e5.out] at o5 ⊢
  dsimp only [Stk.zero] at o5 ⊢
  have h5 : Sts _ _ [] := o5.sts
  obtain ⟨a5, c5, rfl, -⟩ := h5.form
  clear o5 h5
  have bh1_0 : World.cell? w9 ⟨w1.heap.size, 0, none⟩ = some (.int .i64 4) := bh1.cell 0
  have bh1_1 : World.cell? w9 ⟨w1.heap.size, 1, none⟩ = some (.slice ah1 X.length ch1) := bh1.cell 1
  have bh1_l := bh1.lt
  have bh2_0 : World.cell? w9 ⟨w3.heap.size, 0, none⟩ = some (.int .i64 4) := bh2.cell 0
  have bh2_1 : World.cell? w9 ⟨w3.heap.size, 1, none⟩ = some (.slice ah2 Y.length ch2) := bh2.cell 1
  have bh2_l := bh2.lt
  have bh3_0 : World.cell? w9 ⟨w5.heap.size, 0, none⟩ = some (.int .i64 4) := bh3.cell 0
  have bh3_1 : World.cell? w9 ⟨w5.heap.size, 1, none⟩ = some (.slice (some ⟨zb, zo, none⟩) Z.length c3) := bh3.cell 1
  have bh3_l := bh3.lt
  have bh4_0 : World.cell? w9 ⟨w7.heap.size, 0, none⟩ = some (.int .i64 4) := bh4.cell 0
  have bh4_1 : World.cell? w9 ⟨w7.heap.size, 1, none⟩ = some (.slice ah4 Y.length ch4) := bh4.cell 1
  have bh4_l := bh4.lt
  go_wp2_with fail
  clear bh1_0 bh1_1 bh1_l
  clear bh2_0 bh2_1 bh2_l
  clear bh3_0 bh3_1 bh3_l
  clear bh4_0 bh4_1 bh4_l
  have bh5 := Box.new w9 56 #[.int .i64 0, .slice a5 0 c5]
  have hx9 : Ext w9 (World.alloc w9 (.cells #[.int .i64 0, .slice a5 0 c5] 56)) := (Ext.refl _).alloc _
  obtain ⟨w9b, hw9⟩ : ∃ x, World.alloc w9 (.cells #[.int .i64 0, .slice a5 0 c5] 56) = x := ⟨_, rfl⟩
  rw [hw9] at bh5 hx9 ⊢
  clear hw9
  replace hp := hp.ext hx9
  replace h1 := h1.ext hx9
  replace bh1 := bh1.ext hx9
  replace h2 := h2.ext hx9
  replace bh2 := bh2.ext hx9
  replace h3 := h3.ext hx9
  replace bh3 := bh3.ext hx9
  replace h4 := h4.ext hx9
  replace bh4 := bh4.ext hx9
  have hF9 := Ext.trans (hF8) hx9
  refine (ref33_Same h4 h2).mono ?_
  rintro e w11 ⟨rfl, hE10⟩
  replace hp := hp.ext hE10
  replace h1 := h1.ext hE10
  replace bh1 := bh1.ext hE10
  replace h2 := h2.ext hE10
  replace bh2 := bh2.ext hE10
  replace h3 := h3.ext hE10
  replace bh3 := bh3.ext hE10
  replace h4 := h4.ext hE10
  replace bh4 := bh4.ext hE10
  replace bh5 := bh5.ext hE10
  have hF10 := Ext.trans (hF9) hE10
  go_wp2
  go_ret
  exact ⟨rfl, hF10⟩


end Go.Proofs.YtkbocenpkdaogaaDoor
