/- The example of layer 26. -/
import Derived.Test.YtcndhbkbbmgeeaaCelWD
namespace Go.Proofs.Ytcndhbkbbmgeeaa
set_option maxRecDepth 100000
open Go.RowKit

theorem Als.form1 {w : World} {v : Value} {l : List Alloc} (h : Als w v l) (n : Nat) (e : l.length = n) : ∃ a cap, v = .slice a n cap ∧ n ≤ cap ∧ cap ≤ maxLen ∧ (a = none → cap = 0) := e ▸ h.form
theorem ex26_1 : addR ⟨[], 0⟩ 2 = (⟨[newAlloc 0 2], 1⟩, 0, 0) := by rfl
theorem ex26_2 : addR ⟨[newAlloc 0 2], 1⟩ 1 = (⟨[newAlloc 0 2, newAlloc 1 1], 2⟩, 1, 0) := by rfl
theorem ex26_3 : endR ⟨[newAlloc 0 2, newAlloc 1 1], 2⟩ 0 = (⟨[ended (newAlloc 0 2), newAlloc 1 1], 2⟩, 0) := by rfl
theorem ex26_4 : forgetR ⟨[ended (newAlloc 0 2), newAlloc 1 1], 2⟩ = (⟨[newAlloc 1 1], 2⟩, 0) := by rfl
theorem ex26_5 : addR ⟨[newAlloc 1 1], 2⟩ 1 = (⟨[newAlloc 1 1, newAlloc 2 1], 3⟩, 2, 0) := by rfl

set_option maxRecDepth 100000 in
set_option maxHeartbeats 3200000 in
theorem law26_alive (w : World) : Calls Try.prog 31 #[] w fun e w' => e = .returned (.bool true) ∧ Ext w w' := by
  go_enter Try.func31, Try.ntmps31
  go_wp2_with fail
  refine (allocs_Add (m := ⟨[], 0⟩) 2 (Als.nil _) (by unfold i64B; decide)).mono ?_
  rintro e w1 ⟨q1, rfl, f1, hE0⟩
  have hF0 := Ext.trans (Ext.refl _) hE0
  rw [ex26_1] at f1
  rw [ex26_1]
  obtain ⟨q1', rfl, h1⟩ := f1.read
  obtain ⟨s1, c1, rfl, -⟩ := h1.form1 1 rfl
  clear f1
  dsimp only
  go_wp2_with fail
  have b1 := Box.new w1 52 #[.slice s1 1 c1, .int .i64 1]
  have hx1 : Ext w1 (World.alloc w1 (.cells #[.slice s1 1 c1, .int .i64 1] 52)) := (Ext.refl _).alloc _
  obtain ⟨w1b, hw1⟩ : ∃ x, World.alloc w1 (.cells #[.slice s1 1 c1, .int .i64 1] 52) = x := ⟨_, rfl⟩
  rw [hw1] at b1 hx1 ⊢
  clear hw1
  replace h1 := h1.ext hx1
  have hF1 := Ext.trans (hF0) hx1
  refine (allocs_Add (m := ⟨[newAlloc 0 2], 1⟩) 1 h1 (by unfold i64B; decide)).mono ?_
  rintro e w3 ⟨q2, rfl, f2, hE2⟩
  replace h1 := h1.ext hE2
  replace b1 := b1.ext hE2
  have hF2 := Ext.trans (hF1) hE2
  rw [ex26_2] at f2
  rw [ex26_2]
  obtain ⟨q2', rfl, h2⟩ := f2.read
  obtain ⟨s2, c2, rfl, -⟩ := h2.form1 2 rfl
  clear f2
  dsimp only
  have b1_0 : World.cell? w3 ⟨w1.heap.size, 0, none⟩ = some (.slice s1 1 c1) := b1.cell 0
  have b1_1 : World.cell? w3 ⟨w1.heap.size, 1, none⟩ = some (.int .i64 1) := b1.cell 1
  have b1_l := b1.lt
  go_wp2_with fail
  clear b1_0 b1_1 b1_l
  have b2 := Box.new w3 52 #[.slice s2 2 c2, .int .i64 2]
  have hx3 : Ext w3 (World.alloc w3 (.cells #[.slice s2 2 c2, .int .i64 2] 52)) := (Ext.refl _).alloc _
  obtain ⟨w3b, hw3⟩ : ∃ x, World.alloc w3 (.cells #[.slice s2 2 c2, .int .i64 2] 52) = x := ⟨_, rfl⟩
  rw [hw3] at b2 hx3 ⊢
  clear hw3
  replace h1 := h1.ext hx3
  replace b1 := b1.ext hx3
  replace h2 := h2.ext hx3
  have hF3 := Ext.trans (hF2) hx3
  refine (allocs_End (m := ⟨[newAlloc 0 2, newAlloc 1 1], 2⟩) 0 h2 (by unfold i64B; decide)).mono ?_
  rintro e w5 ⟨q3, rfl, f3, hE4⟩
  replace h1 := h1.ext hE4
  replace b1 := b1.ext hE4
  replace h2 := h2.ext hE4
  replace b2 := b2.ext hE4
  have hF4 := Ext.trans (hF3) hE4
  rw [ex26_3] at f3
  rw [ex26_3]
  obtain ⟨q3', rfl, h3⟩ := f3.read
  obtain ⟨s3, c3, rfl, -⟩ := h3.form1 2 rfl
  clear f3
  dsimp only
  have b1_0 : World.cell? w5 ⟨w1.heap.size, 0, none⟩ = some (.slice s1 1 c1) := b1.cell 0
  have b1_1 : World.cell? w5 ⟨w1.heap.size, 1, none⟩ = some (.int .i64 1) := b1.cell 1
  have b1_l := b1.lt
  have b2_0 : World.cell? w5 ⟨w3.heap.size, 0, none⟩ = some (.slice s2 2 c2) := b2.cell 0
  have b2_1 : World.cell? w5 ⟨w3.heap.size, 1, none⟩ = some (.int .i64 2) := b2.cell 1
  have b2_l := b2.lt
  go_wp2_with fail
  clear b1_0 b1_1 b1_l
  clear b2_0 b2_1 b2_l
  have b3 := Box.new w5 52 #[.slice s3 2 c3, .int .i64 2]
  have hx5 : Ext w5 (World.alloc w5 (.cells #[.slice s3 2 c3, .int .i64 2] 52)) := (Ext.refl _).alloc _
  obtain ⟨w5b, hw5⟩ : ∃ x, World.alloc w5 (.cells #[.slice s3 2 c3, .int .i64 2] 52) = x := ⟨_, rfl⟩
  rw [hw5] at b3 hx5 ⊢
  clear hw5
  replace h1 := h1.ext hx5
  replace b1 := b1.ext hx5
  replace h2 := h2.ext hx5
  replace b2 := b2.ext hx5
  replace h3 := h3.ext hx5
  have hF5 := Ext.trans (hF4) hx5
  refine (allocs_Forget (m := ⟨[ended (newAlloc 0 2), newAlloc 1 1], 2⟩) h3 (by unfold i64B; decide)).mono ?_
  rintro e w7 ⟨q4, rfl, f4, hE6⟩
  replace h1 := h1.ext hE6
  replace b1 := b1.ext hE6
  replace h2 := h2.ext hE6
  replace b2 := b2.ext hE6
  replace h3 := h3.ext hE6
  replace b3 := b3.ext hE6
  have hF6 := Ext.trans (hF5) hE6
  rw [ex26_4] at f4
  rw [ex26_4]
  obtain ⟨q4', rfl, h4⟩ := f4.read
  obtain ⟨s4, c4, rfl, -⟩ := h4.form1 1 rfl
  clear f4
  dsimp only
  have b1_0 : World.cell? w7 ⟨w1.heap.size, 0, none⟩ = some (.slice s1 1 c1) := b1.cell 0
  have b1_1 : World.cell? w7 ⟨w1.heap.size, 1, none⟩ = some (.int .i64 1) := b1.cell 1
  have b1_l := b1.lt
  have b2_0 : World.cell? w7 ⟨w3.heap.size, 0, none⟩ = some (.slice s2 2 c2) := b2.cell 0
  have b2_1 : World.cell? w7 ⟨w3.heap.size, 1, none⟩ = some (.int .i64 2) := b2.cell 1
  have b2_l := b2.lt
  have b3_0 : World.cell? w7 ⟨w5.heap.size, 0, none⟩ = some (.slice s3 2 c3) := b3.cell 0
  have b3_1 : World.cell? w7 ⟨w5.heap.size, 1, none⟩ = some (.int .i64 2) := b3.cell 1
  have b3_l := b3.lt
  go_wp2_with fail
  clear b1_0 b1_1 b1_l
  clear b2_0 b2_1 b2_l
  clear b3_0 b3_1 b3_l
  have b4 := Box.new w7 52 #[.slice s4 1 c4, .int .i64 2]
  have hx7 : Ext w7 (World.alloc w7 (.cells #[.slice s4 1 c4, .int .i64 2] 52)) := (Ext.refl _).alloc _
  obtain ⟨w7b, hw7⟩ : ∃ x, World.alloc w7 (.cells #[.slice s4 1 c4, .int .i64 2] 52) = x := ⟨_, rfl⟩
  rw [hw7] at b4 hx7 ⊢
  clear hw7
  replace h1 := h1.ext hx7
  replace b1 := b1.ext hx7
  replace h2 := h2.ext hx7
  replace b2 := b2.ext hx7
  replace h3 := h3.ext hx7
  replace b3 := b3.ext hx7
  replace h4 := h4.ext hx7
  have hF7 := Ext.trans (hF6) hx7
  refine (allocs_Add (m := ⟨[newAlloc 1 1], 2⟩) 1 h4 (by unfold i64B; decide)).mono ?_
  rintro e w9 ⟨q5, rfl, f5, hE8⟩
  replace h1 := h1.ext hE8
  replace b1 := b1.ext hE8
  replace h2 := h2.ext hE8
  replace b2 := b2.ext hE8
  replace h3 := h3.ext hE8
  replace b3 := b3.ext hE8
  replace h4 := h4.ext hE8
  replace b4 := b4.ext hE8
  have hF8 := Ext.trans (hF7) hE8
  rw [ex26_5] at f5
  rw [ex26_5]
  obtain ⟨q5', rfl, h5⟩ := f5.read
  obtain ⟨s5, c5, rfl, -⟩ := h5.form1 2 rfl
  clear f5
  dsimp only
  have b1_0 : World.cell? w9 ⟨w1.heap.size, 0, none⟩ = some (.slice s1 1 c1) := b1.cell 0
  have b1_1 : World.cell? w9 ⟨w1.heap.size, 1, none⟩ = some (.int .i64 1) := b1.cell 1
  have b1_l := b1.lt
  have b2_0 : World.cell? w9 ⟨w3.heap.size, 0, none⟩ = some (.slice s2 2 c2) := b2.cell 0
  have b2_1 : World.cell? w9 ⟨w3.heap.size, 1, none⟩ = some (.int .i64 2) := b2.cell 1
  have b2_l := b2.lt
  have b3_0 : World.cell? w9 ⟨w5.heap.size, 0, none⟩ = some (.slice s3 2 c3) := b3.cell 0
  have b3_1 : World.cell? w9 ⟨w5.heap.size, 1, none⟩ = some (.int .i64 2) := b3.cell 1
  have b3_l := b3.lt
  have b4_0 : World.cell? w9 ⟨w7.heap.size, 0, none⟩ = some (.slice s4 1 c4) := b4.cell 0
  have b4_1 : World.cell? w9 ⟨w7.heap.size, 1, none⟩ = some (.int .i64 2) := b4.cell 1
  have b4_l := b4.lt
  obtain ⟨z4, o4, sv4, rfl, hz4, d0, -, -, -⟩ := h4.cell (i := 0) rfl
  have d0 : World.cell? w9 ⟨z4, o4, none⟩ = some (.int .i64 1) := d0
  go_wp2
  go_ret
  exact ⟨rfl, hF8.alloc _⟩

end Go.Proofs.Ytcndhbkbbmgeeaa
