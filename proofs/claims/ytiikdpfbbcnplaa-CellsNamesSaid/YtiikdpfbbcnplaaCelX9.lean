/- The example of layer 27. -/
import Derived.Test.YtiikdpfbbcnplaaCelX8
import Derived.Deep.RegionHeld3
import Derived.Deep.DeepMust
namespace Go.Proofs.Ytiikdpfbbcnplaa
set_option maxRecDepth 100000
open Go.RowKit

def ex27m : Mem := ⟨[⟨0, true, [Cell.zero, ⟨1, 5, 0, 0, 0⟩]⟩], 1⟩
def ex27x : Mem := ⟨[⟨0, false, [Cell.zero, Cell.zero]⟩], 1⟩
theorem ex27_1 : storeR ⟨[newAlloc 0 2], 1⟩ ⟨0, 1, 0⟩ [⟨1, 5, 0, 0, 0⟩] = (ex27m, 0, 0) := by rfl
theorem ex27_2 : endR ex27m 0 = (ex27x, 0) := by rfl
theorem ex27_3 : load1R ex27m ⟨0, 2, 0⟩ = (Cell.zero, 0, 6) := by rfl
theorem ex27_4 : load1R ex27m ⟨0, 1, 0⟩ = (⟨1, 5, 0, 0, 0⟩, 0, 0) := by rfl
theorem ex27_5 : load1R ex27m ⟨0, 0, 0⟩ = (Cell.zero, 4, 0) := by rfl
theorem ex27_6 : load1R ex27x ⟨0, 0, 0⟩ = (Cell.zero, 3, 0) := by rfl
theorem ex27_7 : load1R ex27x ⟨0, 1, 0⟩ = (Cell.zero, 3, 0) := by rfl

theorem loads27_a {s : Value} {w : World} (hl : Als w s ex27m.al) : Calls Try.prog 13 #[.agg #[s, .int .i64 ex27m.next], .int .i64 1, Cell.val ⟨1, 5, 0, 0, 0⟩, .int .u8 0] w fun e w' => e = .returned (.bool true) ∧ Ext w w' := law27_loads 1 _ 0 hl (by unfold i64B; decide) ex27_4
theorem loads27_b {s : Value} {w : World} (hl : Als w s ex27m.al) : Calls Try.prog 13 #[.agg #[s, .int .i64 ex27m.next], .int .i64 0, .agg #[.int .u8 0, .int .i64 0, .int .i64 0, .int .i64 0, .int .i64 0], .int .u8 4] w fun e w' => e = .returned (.bool true) ∧ Ext w w' := law27_loads 0 Cell.zero 4 hl (by unfold i64B; decide) ex27_5
theorem loads27_c {s : Value} {w : World} (hl : Als w s ex27x.al) : Calls Try.prog 13 #[.agg #[s, .int .i64 ex27x.next], .int .i64 0, .agg #[.int .u8 0, .int .i64 0, .int .i64 0, .int .i64 0, .int .i64 0], .int .u8 3] w fun e w' => e = .returned (.bool true) ∧ Ext w w' := law27_loads 0 Cell.zero 3 hl (by unfold i64B; decide) ex27_6
theorem loads27_d {s : Value} {w : World} (hl : Als w s ex27x.al) : Calls Try.prog 13 #[.agg #[s, .int .i64 ex27x.next], .int .i64 1, .agg #[.int .u8 0, .int .i64 0, .int .i64 0, .int .i64 0, .int .i64 0], .int .u8 3] w fun e w' => e = .returned (.bool true) ∧ Ext w w' := law27_loads 1 Cell.zero 3 hl (by unfold i64B; decide) ex27_7

set_option maxRecDepth 100000 in
set_option maxHeartbeats 3200000 in
theorem law27_alive (w : World) : Calls Try.prog 11 #[] w fun e w' => e = .returned (.bool true) ∧ Ext w w' := by
  go_enter Try.func11, Try.ntmps11
  go_wp2_with fail
  refine (law27_two _).mono ?_
  rintro e w1 ⟨⟨s0, rfl, h0⟩, hE0⟩
  have hF0 := Ext.trans (Ext.refl _) hE0
  have h0 : Als w1 s0 (Mem.mk [newAlloc 0 2] 1).al := h0
  go_wp2_with fail
  refine (law27_num 5 _).mono ?_
  rintro e w2 ⟨rfl, hE1⟩
  replace h0 := h0.ext hE1
  have hF1 := Ext.trans (hF0) hE1
  go_wp2_with fail
  refine (cells_Store (m := ⟨[newAlloc 0 2], 1⟩) ⟨0, 1, 0⟩ ⟨1, 5, 0, 0, 0⟩ h0 (by unfold i64B; decide)).mono ?_
  rintro e w3 ⟨v1, rfl, f1, hE2⟩
  replace h0 := h0.ext hE2
  have hF2 := Ext.trans (hF1) hE2
  rw [ex27_1] at f1
  rw [ex27_1]
  obtain ⟨v1', rfl, h1⟩ := FrM.read f1
  obtain ⟨s1, c1, rfl, -⟩ := h1.form1 1 rfl
  clear f1
  dsimp only
  go_wp2_with fail
  have b1 := Box.new w3 24 #[.slice s1 1 c1, .int .i64 ex27m.next]
  have hx3 : Ext w3 (World.alloc w3 (.cells #[.slice s1 1 c1, .int .i64 ex27m.next] 24)) := (Ext.refl _).alloc _
  obtain ⟨w3b, hw3⟩ : ∃ x, World.alloc w3 (.cells #[.slice s1 1 c1, .int .i64 ex27m.next] 24) = x := ⟨_, rfl⟩
  rw [hw3] at b1 hx3 ⊢
  clear hw3
  replace h0 := h0.ext hx3
  replace h1 := h1.ext hx3
  have hF3 := Ext.trans (hF2) hx3
  refine (allocs_End (m := ex27m) 0 h1 (by unfold i64B; decide)).mono ?_
  rintro e w5 ⟨v2, rfl, f2, hE4⟩
  replace h0 := h0.ext hE4
  replace h1 := h1.ext hE4
  replace b1 := b1.ext hE4
  have hF4 := Ext.trans (hF3) hE4
  rw [ex27_2] at f2
  rw [ex27_2]
  obtain ⟨v2', rfl, h2⟩ := f2.read
  obtain ⟨s2, c2, rfl, -⟩ := h2.form1 1 rfl
  clear f2
  dsimp only
  have b1_0 : World.cell? w5 ⟨w3.heap.size, 0, none⟩ = some (.slice s1 1 c1) := b1.cell 0
  have b1_1 : World.cell? w5 ⟨w3.heap.size, 1, none⟩ = some (.int .i64 ex27m.next) := b1.cell 1
  have b1_l := b1.lt
  go_wp2_with fail
  clear b1_0 b1_1 b1_l
  have b2 := Box.new w5 24 #[.slice s2 1 c2, .int .i64 ex27x.next]
  have hx5 : Ext w5 (World.alloc w5 (.cells #[.slice s2 1 c2, .int .i64 ex27x.next] 24)) := (Ext.refl _).alloc _
  obtain ⟨w5b, hw5⟩ : ∃ x, World.alloc w5 (.cells #[.slice s2 1 c2, .int .i64 ex27x.next] 24) = x := ⟨_, rfl⟩
  rw [hw5] at b2 hx5 ⊢
  clear hw5
  replace h0 := h0.ext hx5
  replace h1 := h1.ext hx5
  replace b1 := b1.ext hx5
  replace h2 := h2.ext hx5
  have hF5 := Ext.trans (hF4) hx5
  refine (cells_Load (m := ex27m) ⟨0, 2, 0⟩ h1 (by unfold i64B; decide)).mono ?_
  rintro e w7 ⟨rfl, hE6⟩
  replace h0 := h0.ext hE6
  replace h1 := h1.ext hE6
  replace b1 := b1.ext hE6
  replace h2 := h2.ext hE6
  replace b2 := b2.ext hE6
  have hF6 := Ext.trans (hF5) hE6
  rw [ex27_3]
  dsimp only [Cell.val, Cell.zero]
  have b1_0 : World.cell? w7 ⟨w3.heap.size, 0, none⟩ = some (.slice s1 1 c1) := b1.cell 0
  have b1_1 : World.cell? w7 ⟨w3.heap.size, 1, none⟩ = some (.int .i64 ex27m.next) := b1.cell 1
  have b1_l := b1.lt
  have b2_0 : World.cell? w7 ⟨w5.heap.size, 0, none⟩ = some (.slice s2 1 c2) := b2.cell 0
  have b2_1 : World.cell? w7 ⟨w5.heap.size, 1, none⟩ = some (.int .i64 ex27x.next) := b2.cell 1
  have b2_l := b2.lt
  go_wp2
  clear b1_0 b1_1 b1_l
  clear b2_0 b2_1 b2_l
  have b3 := Box.new w7 29 #[.int .u8 0, .int .i64 0, .int .i64 0, .int .i64 0, .int .i64 0]
  have hx7 : Ext w7 (World.alloc w7 (.cells #[.int .u8 0, .int .i64 0, .int .i64 0, .int .i64 0, .int .i64 0] 29)) := (Ext.refl _).alloc _
  obtain ⟨w7b, hw7⟩ : ∃ x, World.alloc w7 (.cells #[.int .u8 0, .int .i64 0, .int .i64 0, .int .i64 0, .int .i64 0] 29) = x := ⟨_, rfl⟩
  rw [hw7] at b3 hx7 ⊢
  clear hw7
  replace h0 := h0.ext hx7
  replace h1 := h1.ext hx7
  replace b1 := b1.ext hx7
  replace h2 := h2.ext hx7
  replace b2 := b2.ext hx7
  have hF7 := Ext.trans (hF6) hx7
  have b1_0 : World.cell? w7b ⟨w3.heap.size, 0, none⟩ = some (.slice s1 1 c1) := b1.cell 0
  have b1_1 : World.cell? w7b ⟨w3.heap.size, 1, none⟩ = some (.int .i64 ex27m.next) := b1.cell 1
  have b1_l := b1.lt
  have b2_0 : World.cell? w7b ⟨w5.heap.size, 0, none⟩ = some (.slice s2 1 c2) := b2.cell 0
  have b2_1 : World.cell? w7b ⟨w5.heap.size, 1, none⟩ = some (.int .i64 ex27x.next) := b2.cell 1
  have b2_l := b2.lt
  have b3_0 : World.cell? w7b ⟨w7.heap.size, 0, none⟩ = some (.int .u8 0) := b3.cell 0
  have b3_1 : World.cell? w7b ⟨w7.heap.size, 1, none⟩ = some (.int .i64 0) := b3.cell 1
  have b3_2 : World.cell? w7b ⟨w7.heap.size, 2, none⟩ = some (.int .i64 0) := b3.cell 2
  have b3_3 : World.cell? w7b ⟨w7.heap.size, 3, none⟩ = some (.int .i64 0) := b3.cell 3
  have b3_4 : World.cell? w7b ⟨w7.heap.size, 4, none⟩ = some (.int .i64 0) := b3.cell 4
  have b3_l := b3.lt
  have hSk : ∀ w' w'' : World, (w'.cell? ⟨w3.heap.size, 0, none⟩ = some (.slice s1 1 c1) ∧ w'.cell? ⟨w3.heap.size, 1, none⟩ = some (.int .i64 ex27m.next) ∧ w'.cell? ⟨w5.heap.size, 0, none⟩ = some (.slice s2 1 c2) ∧ w'.cell? ⟨w5.heap.size, 1, none⟩ = some (.int .i64 ex27x.next) ∧ w'.cell? ⟨w7.heap.size, 0, none⟩ = some (.int .u8 0) ∧ w'.cell? ⟨w7.heap.size, 1, none⟩ = some (.int .i64 0) ∧ w'.cell? ⟨w7.heap.size, 2, none⟩ = some (.int .i64 0) ∧ w'.cell? ⟨w7.heap.size, 3, none⟩ = some (.int .i64 0) ∧ w'.cell? ⟨w7.heap.size, 4, none⟩ = some (.int .i64 0) ∧ Ext w7b w') → Ext w' w'' → (w''.cell? ⟨w3.heap.size, 0, none⟩ = some (.slice s1 1 c1) ∧ w''.cell? ⟨w3.heap.size, 1, none⟩ = some (.int .i64 ex27m.next) ∧ w''.cell? ⟨w5.heap.size, 0, none⟩ = some (.slice s2 1 c2) ∧ w''.cell? ⟨w5.heap.size, 1, none⟩ = some (.int .i64 ex27x.next) ∧ w''.cell? ⟨w7.heap.size, 0, none⟩ = some (.int .u8 0) ∧ w''.cell? ⟨w7.heap.size, 1, none⟩ = some (.int .i64 0) ∧ w''.cell? ⟨w7.heap.size, 2, none⟩ = some (.int .i64 0) ∧ w''.cell? ⟨w7.heap.size, 3, none⟩ = some (.int .i64 0) ∧ w''.cell? ⟨w7.heap.size, 4, none⟩ = some (.int .i64 0) ∧ Ext w7b w'') := by
    rintro w' w'' ⟨k0, k1, k2, k3, k4, k5, k6, k7, k8, kE⟩ h
    exact ⟨h.cell k0, h.cell k1, h.cell k2, h.cell k3, h.cell k4, h.cell k5, h.cell k6, h.cell k7, h.cell k8, Ext.trans kE h⟩
  go_region_held3 (fun w' => (w'.cell? ⟨w3.heap.size, 0, none⟩ = some (.slice s1 1 c1) ∧ w'.cell? ⟨w3.heap.size, 1, none⟩ = some (.int .i64 ex27m.next) ∧ w'.cell? ⟨w5.heap.size, 0, none⟩ = some (.slice s2 1 c2) ∧ w'.cell? ⟨w5.heap.size, 1, none⟩ = some (.int .i64 ex27x.next) ∧ w'.cell? ⟨w7.heap.size, 0, none⟩ = some (.int .u8 0) ∧ w'.cell? ⟨w7.heap.size, 1, none⟩ = some (.int .i64 0) ∧ w'.cell? ⟨w7.heap.size, 2, none⟩ = some (.int .i64 0) ∧ w'.cell? ⟨w7.heap.size, 3, none⟩ = some (.int .i64 0) ∧ w'.cell? ⟨w7.heap.size, 4, none⟩ = some (.int .i64 0) ∧ Ext w7b w')) (first | assumption | exact ⟨b1_0, b1_1, b2_0, b2_1, b3_0, b3_1, b3_2, b3_3, b3_4, (Ext.refl _).drew⟩ | (refine hSk _ _ (by assumption) ?_; first | assumption | exact (Ext.refl _).alloc _ | exact ((Ext.refl _).alloc _).drew)) (first | (go_at_call 10; refine (law27_num 5 _).mono ?_; rintro e wr0 ⟨rfl, hR0⟩) | (go_at_call 13; (with_reducible refine (loads27_a (h1.ext ?_)).mono ?_); (exact And.right (And.right (And.right (And.right (And.right (And.right (And.right (And.right (And.right (by assumption)))))))))); rintro e wr1 ⟨rfl, hR1⟩) | (go_at_call 13; (with_reducible refine (loads27_b (h1.ext ?_)).mono ?_); (exact And.right (And.right (And.right (And.right (And.right (And.right (And.right (And.right (And.right (by assumption)))))))))); rintro e wr2 ⟨rfl, hR2⟩) | (go_at_call 13; (with_reducible refine (loads27_c (h2.ext ?_)).mono ?_); (exact And.right (And.right (And.right (And.right (And.right (And.right (And.right (And.right (And.right (by assumption)))))))))); rintro e wr3 ⟨rfl, hR3⟩) | (go_at_call 13; (with_reducible refine (loads27_d (h2.ext ?_)).mono ?_); (exact And.right (And.right (And.right (And.right (And.right (And.right (And.right (And.right (And.right (by assumption)))))))))); rintro e wr4 ⟨rfl, hR4⟩))
  all_goals
    have hRR := And.right (And.right (And.right (And.right (And.right (And.right (And.right (And.right (And.right ((by assumption : (World.cell? _ ⟨w3.heap.size, 0, none⟩ = some (.slice s1 1 c1) ∧ World.cell? _ ⟨w3.heap.size, 1, none⟩ = some (.int .i64 ex27m.next) ∧ World.cell? _ ⟨w5.heap.size, 0, none⟩ = some (.slice s2 1 c2) ∧ World.cell? _ ⟨w5.heap.size, 1, none⟩ = some (.int .i64 ex27x.next) ∧ World.cell? _ ⟨w7.heap.size, 0, none⟩ = some (.int .u8 0) ∧ World.cell? _ ⟨w7.heap.size, 1, none⟩ = some (.int .i64 0) ∧ World.cell? _ ⟨w7.heap.size, 2, none⟩ = some (.int .i64 0) ∧ World.cell? _ ⟨w7.heap.size, 3, none⟩ = some (.int .i64 0) ∧ World.cell? _ ⟨w7.heap.size, 4, none⟩ = some (.int .i64 0) ∧ Ext w7b _)))))))))))
    go_wp2
    go_ret
    exact ⟨rfl, hF7.trans hRR⟩
end Go.Proofs.Ytiikdpfbbcnplaa
