/- The statement CellsNames: the call returns true. No condition. (printed by gen/names27.py) -/
import Derived.Test.YtiikdpfbbcnplaaNamC
import Derived.Test.YtiikdpfbbcnplaaReadM
import Derived.Test.YtiikdpfbbcnplaaClose
import Derived.Deep.DeepCutAuto
import Derived.Test.YtiikdpfbbcnplaaBoxR
import Derived.Test.YtiikdpfbbcnplaaRegSeq
import Derived.Deep.RegionHeld3
namespace Go.Proofs.Ytiikdpfbbcnplaa
set_option maxRecDepth 100000
open Go.ChangeShapes Go.WideShapes Go.ChangeAt Go.RowKit

theorem RdM.als {w : World} {a : Option Addr} {n c : Nat} {k : Int} {m : Mem} (h : RdM w (.agg #[.slice a n c, .int .i64 k]) m) : Als w (.slice a n c) m.al := by
  obtain ⟨s, e, hs⟩ := h
  simp only [Value.agg.injEq, Array.mk.injEq, List.cons.injEq, and_true] at e
  rw [e.1]
  exact hs

theorem Als.bxr {N : Nat} {T : TypeId} {w w' : World} {v : Value} {l : List Alloc} (h : Als w v l) (hl : 1 ≤ l.length) (hc : ∀ a ∈ l, 1 ≤ a.cells.length) (hR : BxR N T 2 w w') : Als w' v l := by
  obtain ⟨vs, h1, h2⟩ := h
  have h3 := All2.iff.1 h1
  refine ⟨vs, All2.iff.2 ⟨h3.1, fun i s a hs ha => Sl.bxr (h3.2 i s a hs ha) ?_ hR⟩, Sl.bxr h2 ?_ hR⟩
  · have := hc a (List.mem_of_getElem? ha)
    rw [rows_len (k := 5) Cell.row Cell.row_len]
    omega
  · rw [trows_len arow arow_len h1.length]
    omega
theorem als7_bxr {N : Nat} {T : TypeId} {w w' : World} {v : Value} (h : Als w v full27.al) (hR : BxR N T 2 w w') : Als w' v full27.al := h.bxr (by decide) (by decide) hR
def X7 (w : World) (vs : Array Value) : Prop := ∃ a c, vs = #[.slice a 1 c, .int .i64 5] ∧ Als w (.slice a 1 c) full27.al
theorem X7_bxr {N : Nat} {T : TypeId} : ∀ w w' vs, X7 w vs → BxR N T 2 w w' → X7 w' vs := fun _ _ _ ⟨a, c, h1, h2⟩ hR => ⟨a, c, h1, als7_bxr h2 hR⟩
def PrRV (N : Nat) (f : Option Addr → Nat → Value) : PrR (BxX N 24 2 X7) := ⟨fun v w => ∃ a c, v = f a c ∧ Als w (.slice a 1 c) full27.al, fun _ _ _ ⟨a, c, h1, h2⟩ hR => ⟨a, c, h1, als7_bxr h2 hR.rel⟩⟩
def PrRS (N : Nat) : PrR (BxX N 24 2 X7) := ⟨fun v w => ∃ b a c, v = .pointer (some ⟨b, 0, none⟩) ∧ Box w b 24 #[.slice a 1 c, .int .i64 5] ∧ Als w (.slice a 1 c) full27.al, fun _ w w' ⟨b, a, c, h1, h2, h3⟩ hR => by
  rcases hR.block b h2.lt with h4 | ⟨-, -, vs, -, h6, a', c', rfl, h7⟩
  · exact ⟨b, a, c, h1, h4.trans h2, als7_bxr h3 hR.rel⟩
  · exact ⟨b, a', c', h1, h6, h7⟩⟩
def PrRZ (N : Nat) (f : Option Addr → Nat → Value) : PrR (BxR N 24 2) := ⟨fun v _ => ∃ a c, v = f a c, fun _ _ _ h _ => h⟩
def PrRC (N : Nat) (l : List Cell) : PrR (BxR N 24 2) := ⟨fun v w => Cls w v l ∧ 2 < (l.flatMap Cell.row).length, fun _ _ _ h hR => ⟨Sl.bxr h.1 h.2 hR, h.2⟩⟩
def PrCl7 (l : List Cell) : Pr := ⟨fun v w => Cls w v l, fun _ _ _ h he => Cls.ext h he⟩
def PrZ7 (f : Option Addr → Nat → Value) : Pr := ⟨fun v _ => ∃ a c, v = f a c, fun _ _ _ h _ => h⟩
def PrV7 (f : Option Addr → Nat → Value) (m : Mem) : Pr := ⟨fun v w => ∃ a c, v = f a c ∧ Als w (.slice a 1 c) m.al, fun _ _ _ ⟨a, c, h1, h2⟩ he => ⟨a, c, h1, h2.ext he⟩⟩
def PrB7 (w0 : World) : Pr := ⟨fun v w => ∃ b, v = .pointer (some ⟨b, 0, none⟩) ∧ Box w b 24 #[.slice none 0 0, .int .i64 0] ∧ w0.heap.size ≤ b, fun _ _ _ ⟨b, h1, h2, h3⟩ he => ⟨b, h1, h2.ext he, h3⟩⟩
set_option maxRecDepth 100000 in
set_option maxHeartbeats 25600000 in
theorem cellsNames_walk {w : World} : Calls Try.prog 3 #[] w fun e w' => e = .returned (.bool true) ∧ Ext w w' := by
  go_enter Try.func3, Try.ntmps3
  go_wp2_with fail
  refine (law27_two _).mono ?_
  rintro e w1 ⟨⟨s0, rfl, h0⟩, hZ0⟩
  have hE0 : Ext w w1 := Ext.trans (by repeat (first | exact Ext.refl _ | apply Ext.alloc | apply Ext.drew)) hZ0
  have hF0 := Ext.trans (Ext.refl w) hE0
  have h0 : Als w1 s0 m5.al := h0
  obtain ⟨s0, c0, rfl, -⟩ := h0.form1 1 rfl
  go_wp2_with fail
  have bM := Box.new w1 24 #[.slice s0 1 c0, .int .i64 5]
  have hsz : Hid ((World.alloc w1 (.cells #[.slice s0 1 c0, .int .i64 5] 24)).heap.size = w1.heap.size + 1) := Hid.mk (by simp)
  have hx1 : Ext w1 (World.alloc w1 (.cells #[.slice s0 1 c0, .int .i64 5] 24)) := (Ext.refl _).alloc _
  obtain ⟨w1b, hw1⟩ : ∃ x, World.alloc w1 (.cells #[.slice s0 1 c0, .int .i64 5] 24) = x := ⟨_, rfl⟩
  rw [hw1] at hsz bM hx1 ⊢
  clear hw1
  replace h0 := h0.ext hx1
  have hF1 := Ext.trans (hF0) hx1
  have hszp := hsz
  have bB := Box.new w1b 24 #[.slice none 0 0, .int .i64 (-1)]
  have hsz : Hid ((World.alloc w1b (.cells #[.slice none 0 0, .int .i64 (-1)] 24)).heap.size = w1b.heap.size + 1) := Hid.mk (by simp)
  have hx2 : Ext w1b (World.alloc w1b (.cells #[.slice none 0 0, .int .i64 (-1)] 24)) := (Ext.refl _).alloc _
  obtain ⟨w2b, hw2⟩ : ∃ x, World.alloc w1b (.cells #[.slice none 0 0, .int .i64 (-1)] 24) = x := ⟨_, rfl⟩
  rw [hw2] at hsz bB hx2 ⊢
  clear hw2
  replace h0 := h0.ext hx2
  replace bM := bM.ext hx2
  have hF2 := Ext.trans (hF1) hx2
  rw [hszp.out] at bB hsz
  clear hszp
  refine (cells_Load (m := ⟨[], -1⟩) ⟨-1, 0, 0⟩ (Als.nil _) (by unfold i64B; decide)).mono ?_
  rintro e w4 ⟨rfl, hZ3⟩
  have hE3 : Ext w2b w4 := Ext.trans (by repeat (first | exact Ext.refl _ | apply Ext.alloc | apply Ext.drew)) hZ3
  replace h0 := h0.ext hE3
  replace bM := bM.ext hE3
  replace bB := bB.ext hE3
  have hF3 := Ext.trans (hF2) hE3
  rw [cn27_a]
  dsimp only [Cell.val, Cell.zero]
  have bM_0 : World.cell? w4 ⟨w1.heap.size, 0, none⟩ = some (.slice s0 1 c0) := bM.cell 0
  have bM_1 : World.cell? w4 ⟨w1.heap.size, 1, none⟩ = some (.int .i64 5) := bM.cell 1
  have bM_l := bM.lt
  have bB_0 : World.cell? w4 ⟨w1.heap.size + 1, 0, none⟩ = some (.slice none 0 0) := bB.cell 0
  have bB_1 : World.cell? w4 ⟨w1.heap.size + 1, 1, none⟩ = some (.int .i64 (-1)) := bB.cell 1
  have bB_l := bB.lt
  go_wp2_with fail
  clear bM_0 bM_1 bM_l
  clear bB_0 bB_1 bB_l
  refine (cells_Store (m := ⟨[], -1⟩) ⟨0, 0, 0⟩ ⟨9, 0, 0, 0, 0⟩ (Als.nil _) (by unfold i64B; decide)).mono ?_
  rintro e w5 ⟨vhz, rfl, fhz, hZ4⟩
  have hE4 : Ext w4 w5 := Ext.trans (by repeat (first | exact Ext.refl _ | apply Ext.alloc | apply Ext.drew)) hZ4
  replace h0 := h0.ext hE4
  replace bM := bM.ext hE4
  replace bB := bB.ext hE4
  have hF4 := Ext.trans (hF3) hE4
  rw [cn27_b] at fhz
  rw [cn27_b]
  obtain ⟨vhz', rfl, hz⟩ := FrM.read fhz
  obtain ⟨shz, chz, rfl, -⟩ := hz.form
  clear fhz
  dsimp only [Mem.zero]
  clear hz
  have bM_0 : World.cell? w5 ⟨w1.heap.size, 0, none⟩ = some (.slice s0 1 c0) := bM.cell 0
  have bM_1 : World.cell? w5 ⟨w1.heap.size, 1, none⟩ = some (.int .i64 5) := bM.cell 1
  have bM_l := bM.lt
  have bB_0 : World.cell? w5 ⟨w1.heap.size + 1, 0, none⟩ = some (.slice none 0 0) := bB.cell 0
  have bB_1 : World.cell? w5 ⟨w1.heap.size + 1, 1, none⟩ = some (.int .i64 (-1)) := bB.cell 1
  have bB_l := bB.lt
  have bM_0 : World.cell? w5 ⟨w1.heap.size, 0, none⟩ = some (.slice s0 1 c0) := bM.cell 0
  have bM_1 : World.cell? w5 ⟨w1.heap.size, 1, none⟩ = some (.int .i64 5) := bM.cell 1
  have bM_l := bM.lt
  have bB_0 : World.cell? w5 ⟨w1.heap.size + 1, 0, none⟩ = some (.slice none 0 0) := bB.cell 0
  have bB_1 : World.cell? w5 ⟨w1.heap.size + 1, 1, none⟩ = some (.int .i64 (-1)) := bB.cell 1
  have bB_l := bB.lt
  go_wp2_with fail
  clear bM_0 bM_1 bM_l
  clear bB_0 bB_1 bB_l
  refine (cells_Load (m := m5) ⟨-1, -1, 0⟩ (h0.ext (by repeat (first | exact Ext.refl _ | apply Ext.alloc | apply Ext.drew))) (by unfold i64B; decide)).mono ?_
  rintro e w6 ⟨rfl, hZ5⟩
  have hE5 : Ext w5 w6 := Ext.trans (by repeat (first | exact Ext.refl _ | apply Ext.alloc | apply Ext.drew)) hZ5
  replace h0 := h0.ext hE5
  replace bM := bM.ext hE5
  replace bB := bB.ext hE5
  have hF5 := Ext.trans (hF4) hE5
  rw [cn27_c]
  dsimp only [Cell.val, Cell.zero]
  have bM_0 : World.cell? w6 ⟨w1.heap.size, 0, none⟩ = some (.slice s0 1 c0) := bM.cell 0
  have bM_1 : World.cell? w6 ⟨w1.heap.size, 1, none⟩ = some (.int .i64 5) := bM.cell 1
  have bM_l := bM.lt
  have bB_0 : World.cell? w6 ⟨w1.heap.size + 1, 0, none⟩ = some (.slice none 0 0) := bB.cell 0
  have bB_1 : World.cell? w6 ⟨w1.heap.size + 1, 1, none⟩ = some (.int .i64 (-1)) := bB.cell 1
  have bB_l := bB.lt
  go_wp2_with fail
  clear bM_0 bM_1 bM_l
  clear bB_0 bB_1 bB_l
  refine (cells_Load (m := m5) ⟨5, 0, 0⟩ (h0.ext (by repeat (first | exact Ext.refl _ | apply Ext.alloc | apply Ext.drew))) (by unfold i64B; decide)).mono ?_
  rintro e w7 ⟨rfl, hZ6⟩
  have hE6 : Ext w6 w7 := Ext.trans (by repeat (first | exact Ext.refl _ | apply Ext.alloc | apply Ext.drew)) hZ6
  replace h0 := h0.ext hE6
  replace bM := bM.ext hE6
  replace bB := bB.ext hE6
  have hF6 := Ext.trans (hF5) hE6
  rw [cn27_d]
  dsimp only [Cell.val, Cell.zero]
  have bM_0 : World.cell? w7 ⟨w1.heap.size, 0, none⟩ = some (.slice s0 1 c0) := bM.cell 0
  have bM_1 : World.cell? w7 ⟨w1.heap.size, 1, none⟩ = some (.int .i64 5) := bM.cell 1
  have bM_l := bM.lt
  have bB_0 : World.cell? w7 ⟨w1.heap.size + 1, 0, none⟩ = some (.slice none 0 0) := bB.cell 0
  have bB_1 : World.cell? w7 ⟨w1.heap.size + 1, 1, none⟩ = some (.int .i64 (-1)) := bB.cell 1
  have bB_l := bB.lt
  go_wp2_with fail
  clear bM_0 bM_1 bM_l
  clear bB_0 bB_1 bB_l
  refine (cells_Load (m := m5) ⟨4, 77, 0⟩ (h0.ext (by repeat (first | exact Ext.refl _ | apply Ext.alloc | apply Ext.drew))) (by unfold i64B; decide)).mono ?_
  rintro e w8 ⟨rfl, hZ7⟩
  have hE7 : Ext w7 w8 := Ext.trans (by repeat (first | exact Ext.refl _ | apply Ext.alloc | apply Ext.drew)) hZ7
  replace h0 := h0.ext hE7
  replace bM := bM.ext hE7
  replace bB := bB.ext hE7
  have hF7 := Ext.trans (hF6) hE7
  rw [cn27_e]
  dsimp only [Cell.val, Cell.zero]
  have bM_0 : World.cell? w8 ⟨w1.heap.size, 0, none⟩ = some (.slice s0 1 c0) := bM.cell 0
  have bM_1 : World.cell? w8 ⟨w1.heap.size, 1, none⟩ = some (.int .i64 5) := bM.cell 1
  have bM_l := bM.lt
  have bB_0 : World.cell? w8 ⟨w1.heap.size + 1, 0, none⟩ = some (.slice none 0 0) := bB.cell 0
  have bB_1 : World.cell? w8 ⟨w1.heap.size + 1, 1, none⟩ = some (.int .i64 (-1)) := bB.cell 1
  have bB_l := bB.lt
  go_wp2_with fail
  clear bM_0 bM_1 bM_l
  clear bB_0 bB_1 bB_l
  have bx5 := Box.new w8 29 #[.int .u8 0, .int .i64 0, .int .i64 0, .int .i64 0, .int .i64 0]
  have hsz : Hid ((World.alloc w8 (.cells #[.int .u8 0, .int .i64 0, .int .i64 0, .int .i64 0, .int .i64 0] 29)).heap.size = w8.heap.size + 1) := Hid.mk (by simp)
  have hx8 : Ext w8 (World.alloc w8 (.cells #[.int .u8 0, .int .i64 0, .int .i64 0, .int .i64 0, .int .i64 0] 29)) := (Ext.refl _).alloc _
  obtain ⟨w8b, hw8⟩ : ∃ x, World.alloc w8 (.cells #[.int .u8 0, .int .i64 0, .int .i64 0, .int .i64 0, .int .i64 0] 29) = x := ⟨_, rfl⟩
  rw [hw8] at hsz bx5 hx8 ⊢
  clear hw8
  replace h0 := h0.ext hx8
  replace bM := bM.ext hx8
  replace bB := bB.ext hx8
  have hF8 := Ext.trans (hF7) hx8
  refine (cells_Load (m := m5) ⟨0, -1, 0⟩ (h0.ext (by repeat (first | exact Ext.refl _ | apply Ext.alloc | apply Ext.drew))) (by unfold i64B; decide)).mono ?_
  rintro e w10 ⟨rfl, hZ9⟩
  have hE9 : Ext w8b w10 := Ext.trans (by repeat (first | exact Ext.refl _ | apply Ext.alloc | apply Ext.drew)) hZ9
  replace h0 := h0.ext hE9
  replace bM := bM.ext hE9
  replace bB := bB.ext hE9
  replace bx5 := bx5.ext hE9
  have hF9 := Ext.trans (hF8) hE9
  rw [cn27_f]
  dsimp only [Cell.val, Cell.zero]
  have bM_0 : World.cell? w10 ⟨w1.heap.size, 0, none⟩ = some (.slice s0 1 c0) := bM.cell 0
  have bM_1 : World.cell? w10 ⟨w1.heap.size, 1, none⟩ = some (.int .i64 5) := bM.cell 1
  have bM_l := bM.lt
  have bB_0 : World.cell? w10 ⟨w1.heap.size + 1, 0, none⟩ = some (.slice none 0 0) := bB.cell 0
  have bB_1 : World.cell? w10 ⟨w1.heap.size + 1, 1, none⟩ = some (.int .i64 (-1)) := bB.cell 1
  have bB_l := bB.lt
  have bx5_0 : World.cell? w10 ⟨w8.heap.size, 0, none⟩ = some (.int .u8 0) := bx5.cell 0
  have bx5_1 : World.cell? w10 ⟨w8.heap.size, 1, none⟩ = some (.int .i64 0) := bx5.cell 1
  have bx5_2 : World.cell? w10 ⟨w8.heap.size, 2, none⟩ = some (.int .i64 0) := bx5.cell 2
  have bx5_3 : World.cell? w10 ⟨w8.heap.size, 3, none⟩ = some (.int .i64 0) := bx5.cell 3
  have bx5_4 : World.cell? w10 ⟨w8.heap.size, 4, none⟩ = some (.int .i64 0) := bx5.cell 4
  have bx5_l := bx5.lt
  go_wp2_with fail
  clear bM_0 bM_1 bM_l
  clear bB_0 bB_1 bB_l
  clear bx5_0 bx5_1 bx5_2 bx5_3 bx5_4 bx5_l
  refine (cells_LoadAll (m := m5) ⟨0, -1, 0⟩ 0 (h0.ext (by repeat (first | exact Ext.refl _ | apply Ext.alloc | apply Ext.drew))) (by unfold i64B; decide)).mono ?_
  rintro e w11 ⟨vhz, rfl, ohz, hZ10⟩
  have hE10 : Ext w10 w11 := Ext.trans (by repeat (first | exact Ext.refl _ | apply Ext.alloc | apply Ext.drew)) hZ10
  replace h0 := h0.ext hE10
  replace bM := bM.ext hE10
  replace bB := bB.ext hE10
  replace bx5 := bx5.ext hE10
  have hF10 := Ext.trans (hF9) hE10
  rw [cn27_g] at ohz ⊢
  have hz : Cls w11 vhz [] := ohz.sl
  obtain ⟨ahz, chz, rfl, -⟩ := hz.form
  clear ohz
  dsimp only at hz ⊢
  clear hz
  have bM_0 : World.cell? w11 ⟨w1.heap.size, 0, none⟩ = some (.slice s0 1 c0) := bM.cell 0
  have bM_1 : World.cell? w11 ⟨w1.heap.size, 1, none⟩ = some (.int .i64 5) := bM.cell 1
  have bM_l := bM.lt
  have bB_0 : World.cell? w11 ⟨w1.heap.size + 1, 0, none⟩ = some (.slice none 0 0) := bB.cell 0
  have bB_1 : World.cell? w11 ⟨w1.heap.size + 1, 1, none⟩ = some (.int .i64 (-1)) := bB.cell 1
  have bB_l := bB.lt
  have bx5_0 : World.cell? w11 ⟨w8.heap.size, 0, none⟩ = some (.int .u8 0) := bx5.cell 0
  have bx5_1 : World.cell? w11 ⟨w8.heap.size, 1, none⟩ = some (.int .i64 0) := bx5.cell 1
  have bx5_2 : World.cell? w11 ⟨w8.heap.size, 2, none⟩ = some (.int .i64 0) := bx5.cell 2
  have bx5_3 : World.cell? w11 ⟨w8.heap.size, 3, none⟩ = some (.int .i64 0) := bx5.cell 3
  have bx5_4 : World.cell? w11 ⟨w8.heap.size, 4, none⟩ = some (.int .i64 0) := bx5.cell 4
  have bx5_l := bx5.lt
  go_wp2_with fail
  clear bM_0 bM_1 bM_l
  clear bB_0 bB_1 bB_l
  clear bx5_0 bx5_1 bx5_2 bx5_3 bx5_4 bx5_l
  refine (cells_LoadAll (m := m5) ⟨0, 9, 0⟩ 3 (h0.ext (by repeat (first | exact Ext.refl _ | apply Ext.alloc | apply Ext.drew))) (by unfold i64B; decide)).mono ?_
  rintro e w12 ⟨vhz, rfl, ohz, hZ11⟩
  have hE11 : Ext w11 w12 := Ext.trans (by repeat (first | exact Ext.refl _ | apply Ext.alloc | apply Ext.drew)) hZ11
  replace h0 := h0.ext hE11
  replace bM := bM.ext hE11
  replace bB := bB.ext hE11
  replace bx5 := bx5.ext hE11
  have hF11 := Ext.trans (hF10) hE11
  rw [cn27_h] at ohz ⊢
  have hz : Cls w12 vhz [] := ohz.sl
  obtain ⟨ahz, chz, rfl, -⟩ := hz.form
  clear ohz
  dsimp only at hz ⊢
  clear hz
  have bM_0 : World.cell? w12 ⟨w1.heap.size, 0, none⟩ = some (.slice s0 1 c0) := bM.cell 0
  have bM_1 : World.cell? w12 ⟨w1.heap.size, 1, none⟩ = some (.int .i64 5) := bM.cell 1
  have bM_l := bM.lt
  have bB_0 : World.cell? w12 ⟨w1.heap.size + 1, 0, none⟩ = some (.slice none 0 0) := bB.cell 0
  have bB_1 : World.cell? w12 ⟨w1.heap.size + 1, 1, none⟩ = some (.int .i64 (-1)) := bB.cell 1
  have bB_l := bB.lt
  have bx5_0 : World.cell? w12 ⟨w8.heap.size, 0, none⟩ = some (.int .u8 0) := bx5.cell 0
  have bx5_1 : World.cell? w12 ⟨w8.heap.size, 1, none⟩ = some (.int .i64 0) := bx5.cell 1
  have bx5_2 : World.cell? w12 ⟨w8.heap.size, 2, none⟩ = some (.int .i64 0) := bx5.cell 2
  have bx5_3 : World.cell? w12 ⟨w8.heap.size, 3, none⟩ = some (.int .i64 0) := bx5.cell 3
  have bx5_4 : World.cell? w12 ⟨w8.heap.size, 4, none⟩ = some (.int .i64 0) := bx5.cell 4
  have bx5_l := bx5.lt
  go_wp2_with fail
  clear bM_0 bM_1 bM_l
  clear bB_0 bB_1 bB_l
  clear bx5_0 bx5_1 bx5_2 bx5_3 bx5_4 bx5_l
  refine (cells_LoadAll (m := m5) ⟨0, 1, 0⟩ 2 (h0.ext (by repeat (first | exact Ext.refl _ | apply Ext.alloc | apply Ext.drew))) (by unfold i64B; decide)).mono ?_
  rintro e w13 ⟨vhz, rfl, ohz, hZ12⟩
  have hE12 : Ext w12 w13 := Ext.trans (by repeat (first | exact Ext.refl _ | apply Ext.alloc | apply Ext.drew)) hZ12
  replace h0 := h0.ext hE12
  replace bM := bM.ext hE12
  replace bB := bB.ext hE12
  replace bx5 := bx5.ext hE12
  have hF12 := Ext.trans (hF11) hE12
  rw [cn27_i] at ohz ⊢
  have hz : Cls w13 vhz [] := ohz.sl
  obtain ⟨ahz, chz, rfl, -⟩ := hz.form
  clear ohz
  dsimp only at hz ⊢
  clear hz
  have bM_0 : World.cell? w13 ⟨w1.heap.size, 0, none⟩ = some (.slice s0 1 c0) := bM.cell 0
  have bM_1 : World.cell? w13 ⟨w1.heap.size, 1, none⟩ = some (.int .i64 5) := bM.cell 1
  have bM_l := bM.lt
  have bB_0 : World.cell? w13 ⟨w1.heap.size + 1, 0, none⟩ = some (.slice none 0 0) := bB.cell 0
  have bB_1 : World.cell? w13 ⟨w1.heap.size + 1, 1, none⟩ = some (.int .i64 (-1)) := bB.cell 1
  have bB_l := bB.lt
  have bx5_0 : World.cell? w13 ⟨w8.heap.size, 0, none⟩ = some (.int .u8 0) := bx5.cell 0
  have bx5_1 : World.cell? w13 ⟨w8.heap.size, 1, none⟩ = some (.int .i64 0) := bx5.cell 1
  have bx5_2 : World.cell? w13 ⟨w8.heap.size, 2, none⟩ = some (.int .i64 0) := bx5.cell 2
  have bx5_3 : World.cell? w13 ⟨w8.heap.size, 3, none⟩ = some (.int .i64 0) := bx5.cell 3
  have bx5_4 : World.cell? w13 ⟨w8.heap.size, 4, none⟩ = some (.int .i64 0) := bx5.cell 4
  have bx5_l := bx5.lt
  go_wp2_with fail
  clear bM_0 bM_1 bM_l
  clear bB_0 bB_1 bB_l
  clear bx5_0 bx5_1 bx5_2 bx5_3 bx5_4 bx5_l
  refine (cells_LoadAll (m := m5) ⟨0, 0, 0⟩ 2 (h0.ext (by repeat (first | exact Ext.refl _ | apply Ext.alloc | apply Ext.drew))) (by unfold i64B; decide)).mono ?_
  rintro e w14 ⟨vhz, rfl, ohz, hZ13⟩
  have hE13 : Ext w13 w14 := Ext.trans (by repeat (first | exact Ext.refl _ | apply Ext.alloc | apply Ext.drew)) hZ13
  replace h0 := h0.ext hE13
  replace bM := bM.ext hE13
  replace bB := bB.ext hE13
  replace bx5 := bx5.ext hE13
  have hF13 := Ext.trans (hF12) hE13
  rw [cn27_j] at ohz ⊢
  have hz : Cls w14 vhz [] := ohz.sl
  obtain ⟨ahz, chz, rfl, -⟩ := hz.form
  clear ohz
  dsimp only at hz ⊢
  clear hz
  have bM_0 : World.cell? w14 ⟨w1.heap.size, 0, none⟩ = some (.slice s0 1 c0) := bM.cell 0
  have bM_1 : World.cell? w14 ⟨w1.heap.size, 1, none⟩ = some (.int .i64 5) := bM.cell 1
  have bM_l := bM.lt
  have bB_0 : World.cell? w14 ⟨w1.heap.size + 1, 0, none⟩ = some (.slice none 0 0) := bB.cell 0
  have bB_1 : World.cell? w14 ⟨w1.heap.size + 1, 1, none⟩ = some (.int .i64 (-1)) := bB.cell 1
  have bB_l := bB.lt
  have bx5_0 : World.cell? w14 ⟨w8.heap.size, 0, none⟩ = some (.int .u8 0) := bx5.cell 0
  have bx5_1 : World.cell? w14 ⟨w8.heap.size, 1, none⟩ = some (.int .i64 0) := bx5.cell 1
  have bx5_2 : World.cell? w14 ⟨w8.heap.size, 2, none⟩ = some (.int .i64 0) := bx5.cell 2
  have bx5_3 : World.cell? w14 ⟨w8.heap.size, 3, none⟩ = some (.int .i64 0) := bx5.cell 3
  have bx5_4 : World.cell? w14 ⟨w8.heap.size, 4, none⟩ = some (.int .i64 0) := bx5.cell 4
  have bx5_l := bx5.lt
  go_wp2_with fail
  clear bM_0 bM_1 bM_l
  clear bB_0 bB_1 bB_l
  clear bx5_0 bx5_1 bx5_2 bx5_3 bx5_4 bx5_l
  refine (cells_StoreAll (m := m5) (l := []) ⟨0, 0, 0⟩ (h0.ext (by repeat (first | exact Ext.refl _ | apply Ext.alloc | apply Ext.drew))) (by unfold i64B; decide) (Sl.nil _ _)).mono ?_
  rintro e w15 ⟨vhz, rfl, fhz, hZ14⟩
  have hE14 : Ext w14 w15 := Ext.trans (by repeat (first | exact Ext.refl _ | apply Ext.alloc | apply Ext.drew)) hZ14
  replace h0 := h0.ext hE14
  replace bM := bM.ext hE14
  replace bB := bB.ext hE14
  replace bx5 := bx5.ext hE14
  have hF14 := Ext.trans (hF13) hE14
  rw [cn27_k] at fhz
  rw [cn27_k]
  obtain ⟨vhz', rfl, hz⟩ := FrM.read fhz
  obtain ⟨shz, chz, rfl, -⟩ := hz.form
  clear fhz
  dsimp only [Mem.zero]
  clear hz
  have bM_0 : World.cell? w15 ⟨w1.heap.size, 0, none⟩ = some (.slice s0 1 c0) := bM.cell 0
  have bM_1 : World.cell? w15 ⟨w1.heap.size, 1, none⟩ = some (.int .i64 5) := bM.cell 1
  have bM_l := bM.lt
  have bB_0 : World.cell? w15 ⟨w1.heap.size + 1, 0, none⟩ = some (.slice none 0 0) := bB.cell 0
  have bB_1 : World.cell? w15 ⟨w1.heap.size + 1, 1, none⟩ = some (.int .i64 (-1)) := bB.cell 1
  have bB_l := bB.lt
  have bx5_0 : World.cell? w15 ⟨w8.heap.size, 0, none⟩ = some (.int .u8 0) := bx5.cell 0
  have bx5_1 : World.cell? w15 ⟨w8.heap.size, 1, none⟩ = some (.int .i64 0) := bx5.cell 1
  have bx5_2 : World.cell? w15 ⟨w8.heap.size, 2, none⟩ = some (.int .i64 0) := bx5.cell 2
  have bx5_3 : World.cell? w15 ⟨w8.heap.size, 3, none⟩ = some (.int .i64 0) := bx5.cell 3
  have bx5_4 : World.cell? w15 ⟨w8.heap.size, 4, none⟩ = some (.int .i64 0) := bx5.cell 4
  have bx5_l := bx5.lt
  go_upto_region 15 with fail
  clear bM_0 bM_1 bM_l
  clear bB_0 bB_1 bB_l
  clear bx5_0 bx5_1 bx5_2 bx5_3 bx5_4 bx5_l
  have bz1 := Box.new w15 24 #[.slice shz 0 chz, .int .i64 0]
  have hsz : Hid ((World.alloc w15 (.cells #[.slice shz 0 chz, .int .i64 0] 24)).heap.size = w15.heap.size + 1) := Hid.mk (by simp)
  have hx15 : Ext w15 (World.alloc w15 (.cells #[.slice shz 0 chz, .int .i64 0] 24)) := (Ext.refl _).alloc _
  obtain ⟨w15b, hw15⟩ : ∃ x, World.alloc w15 (.cells #[.slice shz 0 chz, .int .i64 0] 24) = x := ⟨_, rfl⟩
  rw [hw15] at hsz bz1 hx15 ⊢
  clear hw15
  replace h0 := h0.ext hx15
  replace bM := bM.ext hx15
  replace bB := bB.ext hx15
  replace bx5 := bx5.ext hx15
  have hF15 := Ext.trans (hF14) hx15
  clear bz1
  clear bB
  go_cut [36, 37, 38] from 141 to 150 (fun _ s2 s3 wx => s2 = .int .u8 0 ∧ s3 = .int .i64 8 ∧ Ext w15b wx)
  case first =>
    have bM_0 : World.cell? w15b ⟨w1.heap.size, 0, none⟩ = some (.slice s0 1 c0) := bM.cell 0
    have bM_1 : World.cell? w15b ⟨w1.heap.size, 1, none⟩ = some (.int .i64 5) := bM.cell 1
    refine wp_region_rel (R := (BxR w15b.drew.heap.size 24 2)) BxR.refl (fun _ _ _ => BxR.trans) [PrR.eq _ (.agg #[.slice s0 1 c0, .int .i64 5]), PrR.eq _ (.agg #[.int .i64 0, .int .i64 0, .int .i64 0]), PrR.eq _ (.agg #[.int .u8 1, .int .i64 1, .int .i64 0, .int .i64 0, .int .i64 0]), PrR.eq _ (.agg #[.int .u8 3, .int .i64 0, .int .i64 0, .int .i64 0, .int .i64 0]), (PrRC w15b.drew.heap.size [⟨1, 1, 0, 0, 0⟩, ⟨3, 0, 0, 0, 0⟩]), (PrRZ w15b.drew.heap.size (fun a c => .tuple #[.agg #[.slice a 0 c, .int .i64 0], .int .u8 0, .int .i64 8])), (PrRZ w15b.drew.heap.size (fun a c => .tuple #[.agg #[.slice a 0 c, .int .i64 0], .int .u8 0, .int .i64 8])), (PrRZ w15b.drew.heap.size (fun a c => .agg #[.slice a 0 c, .int .i64 0])), PrR.eq _ (.int .u8 0), PrR.eq _ (.int .i64 8), (PrRB w15b.drew.heap.size 24 2), PrR.any _, PrR.eq _ (.int .u8 0), PrR.eq _ (.int .i64 8)] (by kernel_rfl) (by kernel_rfl) ?_ ?_
    · refine ⟨?_, ?_, ?_, ?_, ?_, ?_, ?_, ?_, ?_, ?_, ?_, ?_, ?_, ?_, trivial⟩
      · intro a w hE hd ho
        refine .inl ⟨rfl, ?_⟩
        intro K hK
        have hF : Ext w15b w := Ext.trans ((Ext.refl _).drew) (BxR.to_ext hE (Nat.le_refl _))
        have e1 : a.eval (.tmp 1) = .pointer (some ⟨w1.heap.size, 0, none⟩) := ho 1 (by kernel_rfl)
        rw [eval_tmp] at e1
        have bM_0w := Ext.cell hF bM_0
        have bM_1w := Ext.cell hF bM_1
        clear bM_0 bM_1
        clear hd ho
        replace hK := Lib.hid hK
        go_simp
        exact hK.out _ _ rfl (BxR.refl _)
      · intro a w hE hd ho
        refine .inl ⟨rfl, ?_⟩
        intro K hK
        have hF : Ext w15b w := Ext.trans ((Ext.refl _).drew) (BxR.to_ext hE (Nat.le_refl _))
        clear bM_0 bM_1
        clear hd ho
        replace hK := Lib.hid hK
        go_simp
        exact hK.out _ _ rfl (BxR.refl _)
      · intro a w hE hd ho
        refine .inl ⟨rfl, ?_⟩
        intro K hK
        have hF : Ext w15b w := Ext.trans ((Ext.refl _).drew) (BxR.to_ext hE (Nat.le_refl _))
        clear bM_0 bM_1
        clear hd ho
        replace hK := Lib.hid hK
        go_simp
        refine (law27_num 1 _).mono ?_
        rintro e wz ⟨rfl, hZ⟩
        dsimp only [Cell.val]
        go_simp
        exact hK.out _ _ rfl (BxR.of_ext hZ)
      · intro a w hE hd ho
        refine .inl ⟨rfl, ?_⟩
        intro K hK
        have hF : Ext w15b w := Ext.trans ((Ext.refl _).drew) (BxR.to_ext hE (Nat.le_refl _))
        clear bM_0 bM_1
        clear hd ho
        replace hK := Lib.hid hK
        go_simp
        exact hK.out _ _ rfl (BxR.refl _)
      · intro a w hE hd ho
        refine .inl ⟨rfl, ?_⟩
        intro K hK
        have hF : Ext w15b w := Ext.trans ((Ext.refl _).drew) (BxR.to_ext hE (Nat.le_refl _))
        have e144 : a.eval (.tmp 144) = .agg #[.int .u8 1, .int .i64 1, .int .i64 0, .int .i64 0, .int .i64 0] := hd 2 (by kernel_rfl)
        rw [eval_tmp] at e144
        have e145 : a.eval (.tmp 145) = .agg #[.int .u8 3, .int .i64 0, .int .i64 0, .int .i64 0, .int .i64 0] := hd 3 (by kernel_rfl)
        rw [eval_tmp] at e145
        clear bM_0 bM_1
        clear hd ho
        replace hK := Lib.hid hK
        go_simp
        exact hK.out _ _ ⟨(Cls.lit w _ [⟨1, 1, 0, 0, 0⟩, ⟨3, 0, 0, 0, 0⟩] _ _ rfl rfl (by simp [maxLen]) rfl), by decide⟩ (BxR.of_ext ((Ext.refl _).alloc _))
      · intro a w hE hd ho
        refine .inl ⟨rfl, ?_⟩
        intro K hK
        have hF : Ext w15b w := Ext.trans ((Ext.refl _).drew) (BxR.to_ext hE (Nat.le_refl _))
        have e142 : a.eval (.tmp 142) = .agg #[.slice s0 1 c0, .int .i64 5] := hd 0 (by kernel_rfl)
        rw [eval_tmp] at e142
        have e143 : a.eval (.tmp 143) = .agg #[.int .i64 0, .int .i64 0, .int .i64 0] := hd 1 (by kernel_rfl)
        rw [eval_tmp] at e143
        have h146 : Cls w (a.eval (.tmp 146)) [⟨1, 1, 0, 0, 0⟩, ⟨3, 0, 0, 0, 0⟩] := (show Cls w (a.eval (.tmp 146)) [⟨1, 1, 0, 0, 0⟩, ⟨3, 0, 0, 0, 0⟩] ∧ 2 < (([⟨1, 1, 0, 0, 0⟩, ⟨3, 0, 0, 0, 0⟩] : List Cell).flatMap Cell.row).length from hd 4 (by kernel_rfl)).1
        obtain ⟨xa146, xc146, e146, -⟩ := Cls.form h146
        rw [e146] at h146
        rw [eval_tmp] at e146
        clear bM_0 bM_1
        clear hd ho
        replace hK := Lib.hid hK
        go_simp
        refine (cells_StoreAll (m := m5) (l := [⟨1, 1, 0, 0, 0⟩, ⟨3, 0, 0, 0, 0⟩]) ⟨0, 0, 0⟩ (h0.ext hF) (by unfold i64B; decide) h146).mono ?_
        rintro e wz ⟨vz, rfl, fz, hZ⟩
        rw [cn27_l] at fz ⊢
        obtain ⟨vz2, rfl, hzz⟩ := FrM.read fz
        obtain ⟨sz, cz, rfl, -⟩ := hzz.form
        dsimp only [Mem.zero, full27, List.length]
        go_simp
        exact hK.out _ _ ⟨_, _, rfl⟩ (BxR.of_ext hZ)
      · intro a w hE hd ho
        refine .inl ⟨rfl, ?_⟩
        intro K hK
        have hF : Ext w15b w := Ext.trans ((Ext.refl _).drew) (BxR.to_ext hE (Nat.le_refl _))
        obtain ⟨xa147, xc147, e147⟩ : ∃ a' c', a.eval (.tmp 147) = (fun a c => .tuple #[.agg #[.slice a 0 c, .int .i64 0], .int .u8 0, .int .i64 8]) a' c' := hd 5 (by kernel_rfl)
        dsimp only at e147
        rw [eval_tmp] at e147
        clear bM_0 bM_1
        clear hd ho
        replace hK := Lib.hid hK
        go_simp
        exact hK.out _ _ ⟨_, _, rfl⟩ (BxR.refl _)
      · intro a w hE hd ho
        refine .inl ⟨rfl, ?_⟩
        intro K hK
        have hF : Ext w15b w := Ext.trans ((Ext.refl _).drew) (BxR.to_ext hE (Nat.le_refl _))
        obtain ⟨xa141, xc141, e141⟩ : ∃ a' c', a.eval (.tmp 141) = (fun a c => .tuple #[.agg #[.slice a 0 c, .int .i64 0], .int .u8 0, .int .i64 8]) a' c' := hd 6 (by kernel_rfl)
        dsimp only at e141
        rw [eval_tmp] at e141
        clear bM_0 bM_1
        clear hd ho
        replace hK := Lib.hid hK
        go_simp
        exact hK.out _ _ ⟨_, _, rfl⟩ (BxR.refl _)
      · intro a w hE hd ho
        refine .inl ⟨rfl, ?_⟩
        intro K hK
        have hF : Ext w15b w := Ext.trans ((Ext.refl _).drew) (BxR.to_ext hE (Nat.le_refl _))
        obtain ⟨xa141, xc141, e141⟩ : ∃ a' c', a.eval (.tmp 141) = (fun a c => .tuple #[.agg #[.slice a 0 c, .int .i64 0], .int .u8 0, .int .i64 8]) a' c' := hd 6 (by kernel_rfl)
        dsimp only at e141
        rw [eval_tmp] at e141
        clear bM_0 bM_1
        clear hd ho
        replace hK := Lib.hid hK
        go_simp
        exact hK.out _ _ rfl (BxR.refl _)
      · intro a w hE hd ho
        refine .inl ⟨rfl, ?_⟩
        intro K hK
        have hF : Ext w15b w := Ext.trans ((Ext.refl _).drew) (BxR.to_ext hE (Nat.le_refl _))
        obtain ⟨xa141, xc141, e141⟩ : ∃ a' c', a.eval (.tmp 141) = (fun a c => .tuple #[.agg #[.slice a 0 c, .int .i64 0], .int .u8 0, .int .i64 8]) a' c' := hd 6 (by kernel_rfl)
        dsimp only at e141
        rw [eval_tmp] at e141
        clear bM_0 bM_1
        clear hd ho
        replace hK := Lib.hid hK
        go_simp
        exact hK.out _ _ rfl (BxR.refl _)
      · intro a w hE hd ho
        refine .inl ⟨rfl, ?_⟩
        intro K hK
        have hF : Ext w15b w := Ext.trans ((Ext.refl _).drew) (BxR.to_ext hE (Nat.le_refl _))
        clear bM_0 bM_1
        clear hd ho
        replace hK := Lib.hid hK
        go_simp
        exact hK.out _ _ ⟨_, rfl, BxR.size hE, #[.slice none 0 0, .int .i64 0], rfl, Box.new _ _ _⟩ (BxR.of_ext ((Ext.refl _).alloc _))
      · intro a w hE hd ho
        refine .inl ⟨rfl, ?_⟩
        intro K hK
        have hF : Ext w15b w := Ext.trans ((Ext.refl _).drew) (BxR.to_ext hE (Nat.le_refl _))
        obtain ⟨bq, eq, hNb, vs0, hv0, hbx⟩ : ∃ b, a.eval (.tmp 36) = .pointer (some ⟨b, 0, none⟩) ∧ w15b.drew.heap.size ≤ b ∧ BoxT 24 2 w b := hd 10 (by kernel_rfl)
        rw [eval_tmp] at eq
        have hBT : BoxT 24 2 w bq := ⟨vs0, hv0, hbx⟩
        obtain ⟨u0, u1, rfl⟩ : ∃ u0 u1, vs0 = #[u0, u1] := by match vs0, hv0 with | ⟨[u0, u1]⟩, _ => exact ⟨u0, u1, rfl⟩
        have bc0 : World.cell? w ⟨bq, 0, none⟩ = some u0 := hbx.cell 0
        have bf0 := hbx.frozen 0
        have bc1 : World.cell? w ⟨bq, 1, none⟩ = some u1 := hbx.cell 1
        have bf1 := hbx.frozen 1
        have hbl := hbx.lt
        replace hBT := Lib.hid hBT
        obtain ⟨xa148, xc148, e148⟩ : ∃ a' c', a.eval (.tmp 148) = (fun a c => .agg #[.slice a 0 c, .int .i64 0]) a' c' := hd 7 (by kernel_rfl)
        dsimp only at e148
        rw [eval_tmp] at e148
        clear bM_0 bM_1
        clear hd ho
        replace hK := Lib.hid hK
        go_simp
        exact hK.out undef _ trivial (BxR.trans (BxR.set hBT.out hNb 0 _) (BxR.set (BxR.boxT (BxR.set hBT.out hNb 0 _) hBT.out) hNb 1 _))
      · intro a w hE hd ho
        refine .inl ⟨rfl, ?_⟩
        intro K hK
        have hF : Ext w15b w := Ext.trans ((Ext.refl _).drew) (BxR.to_ext hE (Nat.le_refl _))
        have e149 : a.eval (.tmp 149) = .int .u8 0 := hd 8 (by kernel_rfl)
        rw [eval_tmp] at e149
        clear bM_0 bM_1
        clear hd ho
        replace hK := Lib.hid hK
        go_simp
        exact hK.out _ _ rfl (BxR.refl _)
      · intro a w hE hd ho
        refine .inl ⟨rfl, ?_⟩
        intro K hK
        have hF : Ext w15b w := Ext.trans ((Ext.refl _).drew) (BxR.to_ext hE (Nat.le_refl _))
        have e150 : a.eval (.tmp 150) = .int .i64 8 := hd 9 (by kernel_rfl)
        rw [eval_tmp] at e150
        clear bM_0 bM_1
        clear hd ho
        replace hK := Lib.hid hK
        go_simp
        exact hK.out _ _ rfl (BxR.refl _)
    · intro vals A w hA hE hv hsv
      have hF : Ext w15b w := Ext.trans ((Ext.refl _).drew) (BxR.to_ext hE (Nat.le_refl _))
      have e1 : vals 12 = .int .u8 0 := hv 12 (by decide)
      have e2 : vals 13 = .int .i64 8 := hv 13 (by decide)
      clear hv hsv hE
      subst hA
      replace hF := Lib.hid hF
      simp only [putAll]
      go_simp
      try rw [e1, e2]
      clear e1 e2
      go_wp2_with fail
      go_meet
      exact ⟨rfl, rfl, hF.out⟩
  case rest =>
    obtain ⟨rfl, rfl, hG15⟩ := hcut
    obtain ⟨wq15, hwq⟩ : ∃ z, wc = z := ⟨_, rfl⟩
    rw [hwq] at hG15 ⊢
    clear hwq
    replace h0 := h0.ext hG15
    replace bM := bM.ext hG15
    replace bx5 := bx5.ext hG15
    have hF16 := Ext.trans (hF15) hG15
    have bM_0 : World.cell? wq15 ⟨w1.heap.size, 0, none⟩ = some (.slice s0 1 c0) := bM.cell 0
    have bM_1 : World.cell? wq15 ⟨w1.heap.size, 1, none⟩ = some (.int .i64 5) := bM.cell 1
    have bM_l := bM.lt
    have bx5_0 : World.cell? wq15 ⟨w8.heap.size, 0, none⟩ = some (.int .u8 0) := bx5.cell 0
    have bx5_1 : World.cell? wq15 ⟨w8.heap.size, 1, none⟩ = some (.int .i64 0) := bx5.cell 1
    have bx5_2 : World.cell? wq15 ⟨w8.heap.size, 2, none⟩ = some (.int .i64 0) := bx5.cell 2
    have bx5_3 : World.cell? wq15 ⟨w8.heap.size, 3, none⟩ = some (.int .i64 0) := bx5.cell 3
    have bx5_4 : World.cell? wq15 ⟨w8.heap.size, 4, none⟩ = some (.int .i64 0) := bx5.cell 4
    have bx5_l := bx5.lt
    go_wp2_with fail
    clear bM_0 bM_1 bM_l
    clear bx5_0 bx5_1 bx5_2 bx5_3 bx5_4 bx5_l
    refine (cells_Store (m := m5) ⟨0, 2, 0⟩ ⟨3, 0, 0, 0, 0⟩ (h0.ext (by repeat (first | exact Ext.refl _ | apply Ext.alloc | apply Ext.drew))) (by unfold i64B; decide)).mono ?_
    rintro e w18 ⟨vhz, rfl, fhz, hZ17⟩
    have hE17 : Ext wq15 w18 := Ext.trans (by repeat (first | exact Ext.refl _ | apply Ext.alloc | apply Ext.drew)) hZ17
    replace h0 := h0.ext hE17
    replace bM := bM.ext hE17
    replace bx5 := bx5.ext hE17
    have hF17 := Ext.trans (hF16) hE17
    rw [cn27_n] at fhz
    rw [cn27_n]
    obtain ⟨vhz', rfl, hz⟩ := FrM.read fhz
    obtain ⟨shz, chz, rfl, -⟩ := hz.form
    clear fhz
    dsimp only [Mem.zero]
    clear hz
    have bM_0 : World.cell? w18 ⟨w1.heap.size, 0, none⟩ = some (.slice s0 1 c0) := bM.cell 0
    have bM_1 : World.cell? w18 ⟨w1.heap.size, 1, none⟩ = some (.int .i64 5) := bM.cell 1
    have bM_l := bM.lt
    have bx5_0 : World.cell? w18 ⟨w8.heap.size, 0, none⟩ = some (.int .u8 0) := bx5.cell 0
    have bx5_1 : World.cell? w18 ⟨w8.heap.size, 1, none⟩ = some (.int .i64 0) := bx5.cell 1
    have bx5_2 : World.cell? w18 ⟨w8.heap.size, 2, none⟩ = some (.int .i64 0) := bx5.cell 2
    have bx5_3 : World.cell? w18 ⟨w8.heap.size, 3, none⟩ = some (.int .i64 0) := bx5.cell 3
    have bx5_4 : World.cell? w18 ⟨w8.heap.size, 4, none⟩ = some (.int .i64 0) := bx5.cell 4
    have bx5_l := bx5.lt
    go_upto_region 17 with fail
    clear bM_0 bM_1 bM_l
    clear bx5_0 bx5_1 bx5_2 bx5_3 bx5_4 bx5_l
    have bz2 := Box.new w18 24 #[.slice shz 0 chz, .int .i64 0]
    have hsz : Hid ((World.alloc w18 (.cells #[.slice shz 0 chz, .int .i64 0] 24)).heap.size = w18.heap.size + 1) := Hid.mk (by simp)
    have hx18 : Ext w18 (World.alloc w18 (.cells #[.slice shz 0 chz, .int .i64 0] 24)) := (Ext.refl _).alloc _
    obtain ⟨w18b, hw18⟩ : ∃ x, World.alloc w18 (.cells #[.slice shz 0 chz, .int .i64 0] 24) = x := ⟨_, rfl⟩
    rw [hw18] at hsz bz2 hx18 ⊢
    clear hw18
    replace h0 := h0.ext hx18
    replace bM := bM.ext hx18
    replace bx5 := bx5.ext hx18
    have hF18 := Ext.trans (hF17) hx18
    clear bz2
    go_cut [42, 43, 44] from 159 to 166 (fun _ s2 s3 wx => s2 = .int .u8 3 ∧ s3 = .int .i64 0 ∧ Ext w18b wx)
    case first =>
      have bM_0 : World.cell? w18b ⟨w1.heap.size, 0, none⟩ = some (.slice s0 1 c0) := bM.cell 0
      have bM_1 : World.cell? w18b ⟨w1.heap.size, 1, none⟩ = some (.int .i64 5) := bM.cell 1
      refine wp_region_rel (R := (BxR w18b.drew.heap.size 24 2)) BxR.refl (fun _ _ _ => BxR.trans) [PrR.eq _ (.agg #[.slice s0 1 c0, .int .i64 5]), PrR.eq _ (.agg #[.int .i64 4, .int .i64 0, .int .i64 0]), PrR.eq _ (.agg #[.int .u8 1, .int .i64 1, .int .i64 0, .int .i64 0, .int .i64 0]), (PrRZ w18b.drew.heap.size (fun a c => .tuple #[.agg #[.slice a 0 c, .int .i64 0], .int .u8 3, .int .i64 0])), (PrRZ w18b.drew.heap.size (fun a c => .tuple #[.agg #[.slice a 0 c, .int .i64 0], .int .u8 3, .int .i64 0])), (PrRZ w18b.drew.heap.size (fun a c => .agg #[.slice a 0 c, .int .i64 0])), PrR.eq _ (.int .u8 3), PrR.eq _ (.int .i64 0), (PrRB w18b.drew.heap.size 24 2), PrR.any _, PrR.eq _ (.int .u8 3), PrR.eq _ (.int .i64 0)] (by kernel_rfl) (by kernel_rfl) ?_ ?_
      · refine ⟨?_, ?_, ?_, ?_, ?_, ?_, ?_, ?_, ?_, ?_, ?_, ?_, trivial⟩
        · intro a w hE hd ho
          refine .inl ⟨rfl, ?_⟩
          intro K hK
          have hF : Ext w18b w := Ext.trans ((Ext.refl _).drew) (BxR.to_ext hE (Nat.le_refl _))
          have e1 : a.eval (.tmp 1) = .pointer (some ⟨w1.heap.size, 0, none⟩) := ho 1 (by kernel_rfl)
          rw [eval_tmp] at e1
          have bM_0w := Ext.cell hF bM_0
          have bM_1w := Ext.cell hF bM_1
          clear bM_0 bM_1
          clear hd ho
          replace hK := Lib.hid hK
          go_simp
          exact hK.out _ _ rfl (BxR.refl _)
        · intro a w hE hd ho
          refine .inl ⟨rfl, ?_⟩
          intro K hK
          have hF : Ext w18b w := Ext.trans ((Ext.refl _).drew) (BxR.to_ext hE (Nat.le_refl _))
          clear bM_0 bM_1
          clear hd ho
          replace hK := Lib.hid hK
          go_simp
          exact hK.out _ _ rfl (BxR.refl _)
        · intro a w hE hd ho
          refine .inl ⟨rfl, ?_⟩
          intro K hK
          have hF : Ext w18b w := Ext.trans ((Ext.refl _).drew) (BxR.to_ext hE (Nat.le_refl _))
          clear bM_0 bM_1
          clear hd ho
          replace hK := Lib.hid hK
          go_simp
          refine (law27_num 1 _).mono ?_
          rintro e wz ⟨rfl, hZ⟩
          dsimp only [Cell.val]
          go_simp
          exact hK.out _ _ rfl (BxR.of_ext hZ)
        · intro a w hE hd ho
          refine .inl ⟨rfl, ?_⟩
          intro K hK
          have hF : Ext w18b w := Ext.trans ((Ext.refl _).drew) (BxR.to_ext hE (Nat.le_refl _))
          have e160 : a.eval (.tmp 160) = .agg #[.slice s0 1 c0, .int .i64 5] := hd 0 (by kernel_rfl)
          rw [eval_tmp] at e160
          have e161 : a.eval (.tmp 161) = .agg #[.int .i64 4, .int .i64 0, .int .i64 0] := hd 1 (by kernel_rfl)
          rw [eval_tmp] at e161
          have e162 : a.eval (.tmp 162) = .agg #[.int .u8 1, .int .i64 1, .int .i64 0, .int .i64 0, .int .i64 0] := hd 2 (by kernel_rfl)
          rw [eval_tmp] at e162
          clear bM_0 bM_1
          clear hd ho
          replace hK := Lib.hid hK
          go_simp
          refine (cells_Store (m := m5) ⟨4, 0, 0⟩ ⟨1, 1, 0, 0, 0⟩ (h0.ext hF) (by unfold i64B; decide)).mono ?_
          rintro e wz ⟨vz, rfl, fz, hZ⟩
          rw [cn27_o] at fz ⊢
          obtain ⟨vz2, rfl, hzz⟩ := FrM.read fz
          obtain ⟨sz, cz, rfl, -⟩ := hzz.form
          dsimp only [Mem.zero, full27, List.length]
          go_simp
          exact hK.out _ _ ⟨_, _, rfl⟩ (BxR.of_ext hZ)
        · intro a w hE hd ho
          refine .inl ⟨rfl, ?_⟩
          intro K hK
          have hF : Ext w18b w := Ext.trans ((Ext.refl _).drew) (BxR.to_ext hE (Nat.le_refl _))
          obtain ⟨xa163, xc163, e163⟩ : ∃ a' c', a.eval (.tmp 163) = (fun a c => .tuple #[.agg #[.slice a 0 c, .int .i64 0], .int .u8 3, .int .i64 0]) a' c' := hd 3 (by kernel_rfl)
          dsimp only at e163
          rw [eval_tmp] at e163
          clear bM_0 bM_1
          clear hd ho
          replace hK := Lib.hid hK
          go_simp
          exact hK.out _ _ ⟨_, _, rfl⟩ (BxR.refl _)
        · intro a w hE hd ho
          refine .inl ⟨rfl, ?_⟩
          intro K hK
          have hF : Ext w18b w := Ext.trans ((Ext.refl _).drew) (BxR.to_ext hE (Nat.le_refl _))
          obtain ⟨xa159, xc159, e159⟩ : ∃ a' c', a.eval (.tmp 159) = (fun a c => .tuple #[.agg #[.slice a 0 c, .int .i64 0], .int .u8 3, .int .i64 0]) a' c' := hd 4 (by kernel_rfl)
          dsimp only at e159
          rw [eval_tmp] at e159
          clear bM_0 bM_1
          clear hd ho
          replace hK := Lib.hid hK
          go_simp
          exact hK.out _ _ ⟨_, _, rfl⟩ (BxR.refl _)
        · intro a w hE hd ho
          refine .inl ⟨rfl, ?_⟩
          intro K hK
          have hF : Ext w18b w := Ext.trans ((Ext.refl _).drew) (BxR.to_ext hE (Nat.le_refl _))
          obtain ⟨xa159, xc159, e159⟩ : ∃ a' c', a.eval (.tmp 159) = (fun a c => .tuple #[.agg #[.slice a 0 c, .int .i64 0], .int .u8 3, .int .i64 0]) a' c' := hd 4 (by kernel_rfl)
          dsimp only at e159
          rw [eval_tmp] at e159
          clear bM_0 bM_1
          clear hd ho
          replace hK := Lib.hid hK
          go_simp
          exact hK.out _ _ rfl (BxR.refl _)
        · intro a w hE hd ho
          refine .inl ⟨rfl, ?_⟩
          intro K hK
          have hF : Ext w18b w := Ext.trans ((Ext.refl _).drew) (BxR.to_ext hE (Nat.le_refl _))
          obtain ⟨xa159, xc159, e159⟩ : ∃ a' c', a.eval (.tmp 159) = (fun a c => .tuple #[.agg #[.slice a 0 c, .int .i64 0], .int .u8 3, .int .i64 0]) a' c' := hd 4 (by kernel_rfl)
          dsimp only at e159
          rw [eval_tmp] at e159
          clear bM_0 bM_1
          clear hd ho
          replace hK := Lib.hid hK
          go_simp
          exact hK.out _ _ rfl (BxR.refl _)
        · intro a w hE hd ho
          refine .inl ⟨rfl, ?_⟩
          intro K hK
          have hF : Ext w18b w := Ext.trans ((Ext.refl _).drew) (BxR.to_ext hE (Nat.le_refl _))
          clear bM_0 bM_1
          clear hd ho
          replace hK := Lib.hid hK
          go_simp
          exact hK.out _ _ ⟨_, rfl, BxR.size hE, #[.slice none 0 0, .int .i64 0], rfl, Box.new _ _ _⟩ (BxR.of_ext ((Ext.refl _).alloc _))
        · intro a w hE hd ho
          refine .inl ⟨rfl, ?_⟩
          intro K hK
          have hF : Ext w18b w := Ext.trans ((Ext.refl _).drew) (BxR.to_ext hE (Nat.le_refl _))
          obtain ⟨bq, eq, hNb, vs0, hv0, hbx⟩ : ∃ b, a.eval (.tmp 42) = .pointer (some ⟨b, 0, none⟩) ∧ w18b.drew.heap.size ≤ b ∧ BoxT 24 2 w b := hd 8 (by kernel_rfl)
          rw [eval_tmp] at eq
          have hBT : BoxT 24 2 w bq := ⟨vs0, hv0, hbx⟩
          obtain ⟨u0, u1, rfl⟩ : ∃ u0 u1, vs0 = #[u0, u1] := by match vs0, hv0 with | ⟨[u0, u1]⟩, _ => exact ⟨u0, u1, rfl⟩
          have bc0 : World.cell? w ⟨bq, 0, none⟩ = some u0 := hbx.cell 0
          have bf0 := hbx.frozen 0
          have bc1 : World.cell? w ⟨bq, 1, none⟩ = some u1 := hbx.cell 1
          have bf1 := hbx.frozen 1
          have hbl := hbx.lt
          replace hBT := Lib.hid hBT
          obtain ⟨xa164, xc164, e164⟩ : ∃ a' c', a.eval (.tmp 164) = (fun a c => .agg #[.slice a 0 c, .int .i64 0]) a' c' := hd 5 (by kernel_rfl)
          dsimp only at e164
          rw [eval_tmp] at e164
          clear bM_0 bM_1
          clear hd ho
          replace hK := Lib.hid hK
          go_simp
          exact hK.out undef _ trivial (BxR.trans (BxR.set hBT.out hNb 0 _) (BxR.set (BxR.boxT (BxR.set hBT.out hNb 0 _) hBT.out) hNb 1 _))
        · intro a w hE hd ho
          refine .inl ⟨rfl, ?_⟩
          intro K hK
          have hF : Ext w18b w := Ext.trans ((Ext.refl _).drew) (BxR.to_ext hE (Nat.le_refl _))
          have e165 : a.eval (.tmp 165) = .int .u8 3 := hd 6 (by kernel_rfl)
          rw [eval_tmp] at e165
          clear bM_0 bM_1
          clear hd ho
          replace hK := Lib.hid hK
          go_simp
          exact hK.out _ _ rfl (BxR.refl _)
        · intro a w hE hd ho
          refine .inl ⟨rfl, ?_⟩
          intro K hK
          have hF : Ext w18b w := Ext.trans ((Ext.refl _).drew) (BxR.to_ext hE (Nat.le_refl _))
          have e166 : a.eval (.tmp 166) = .int .i64 0 := hd 7 (by kernel_rfl)
          rw [eval_tmp] at e166
          clear bM_0 bM_1
          clear hd ho
          replace hK := Lib.hid hK
          go_simp
          exact hK.out _ _ rfl (BxR.refl _)
      · intro vals A w hA hE hv hsv
        have hF : Ext w18b w := Ext.trans ((Ext.refl _).drew) (BxR.to_ext hE (Nat.le_refl _))
        have e1 : vals 10 = .int .u8 3 := hv 10 (by decide)
        have e2 : vals 11 = .int .i64 0 := hv 11 (by decide)
        clear hv hsv hE
        subst hA
        replace hF := Lib.hid hF
        simp only [putAll]
        go_simp
        try rw [e1, e2]
        clear e1 e2
        go_wp2_with fail
        go_meet
        exact ⟨rfl, rfl, hF.out⟩
    case rest =>
      obtain ⟨rfl, rfl, hG17⟩ := hcut
      obtain ⟨wq17, hwq⟩ : ∃ z, wc = z := ⟨_, rfl⟩
      rw [hwq] at hG17 ⊢
      clear hwq
      replace h0 := h0.ext hG17
      replace bM := bM.ext hG17
      replace bx5 := bx5.ext hG17
      have hF19 := Ext.trans (hF18) hG17
      have bM_0 : World.cell? wq17 ⟨w1.heap.size, 0, none⟩ = some (.slice s0 1 c0) := bM.cell 0
      have bM_1 : World.cell? wq17 ⟨w1.heap.size, 1, none⟩ = some (.int .i64 5) := bM.cell 1
      have bM_l := bM.lt
      have bx5_0 : World.cell? wq17 ⟨w8.heap.size, 0, none⟩ = some (.int .u8 0) := bx5.cell 0
      have bx5_1 : World.cell? wq17 ⟨w8.heap.size, 1, none⟩ = some (.int .i64 0) := bx5.cell 1
      have bx5_2 : World.cell? wq17 ⟨w8.heap.size, 2, none⟩ = some (.int .i64 0) := bx5.cell 2
      have bx5_3 : World.cell? wq17 ⟨w8.heap.size, 3, none⟩ = some (.int .i64 0) := bx5.cell 3
      have bx5_4 : World.cell? wq17 ⟨w8.heap.size, 4, none⟩ = some (.int .i64 0) := bx5.cell 4
      have bx5_l := bx5.lt
      go_wp2_with fail
      clear bM_0 bM_1 bM_l
      clear bx5_0 bx5_1 bx5_2 bx5_3 bx5_4 bx5_l
      refine (cells_Store (m := m5) ⟨4, 0, 0⟩ ⟨0, 1, 0, 0, 0⟩ (h0.ext (by repeat (first | exact Ext.refl _ | apply Ext.alloc | apply Ext.drew))) (by unfold i64B; decide)).mono ?_
      rintro e w21 ⟨vhz, rfl, fhz, hZ20⟩
      have hE20 : Ext wq17 w21 := Ext.trans (by repeat (first | exact Ext.refl _ | apply Ext.alloc | apply Ext.drew)) hZ20
      replace h0 := h0.ext hE20
      replace bM := bM.ext hE20
      replace bx5 := bx5.ext hE20
      have hF20 := Ext.trans (hF19) hE20
      rw [cn27_p] at fhz
      rw [cn27_p]
      obtain ⟨vhz', rfl, hz⟩ := FrM.read fhz
      obtain ⟨shz, chz, rfl, -⟩ := hz.form
      clear fhz
      dsimp only [Mem.zero]
      clear hz
      have bM_0 : World.cell? w21 ⟨w1.heap.size, 0, none⟩ = some (.slice s0 1 c0) := bM.cell 0
      have bM_1 : World.cell? w21 ⟨w1.heap.size, 1, none⟩ = some (.int .i64 5) := bM.cell 1
      have bM_l := bM.lt
      have bx5_0 : World.cell? w21 ⟨w8.heap.size, 0, none⟩ = some (.int .u8 0) := bx5.cell 0
      have bx5_1 : World.cell? w21 ⟨w8.heap.size, 1, none⟩ = some (.int .i64 0) := bx5.cell 1
      have bx5_2 : World.cell? w21 ⟨w8.heap.size, 2, none⟩ = some (.int .i64 0) := bx5.cell 2
      have bx5_3 : World.cell? w21 ⟨w8.heap.size, 3, none⟩ = some (.int .i64 0) := bx5.cell 3
      have bx5_4 : World.cell? w21 ⟨w8.heap.size, 4, none⟩ = some (.int .i64 0) := bx5.cell 4
      have bx5_l := bx5.lt
      go_upto_region 19 with fail
      clear bM_0 bM_1 bM_l
      clear bx5_0 bx5_1 bx5_2 bx5_3 bx5_4 bx5_l
      have bz3 := Box.new w21 24 #[.slice shz 0 chz, .int .i64 0]
      have hsz : Hid ((World.alloc w21 (.cells #[.slice shz 0 chz, .int .i64 0] 24)).heap.size = w21.heap.size + 1) := Hid.mk (by simp)
      have hx21 : Ext w21 (World.alloc w21 (.cells #[.slice shz 0 chz, .int .i64 0] 24)) := (Ext.refl _).alloc _
      obtain ⟨w21b, hw21⟩ : ∃ x, World.alloc w21 (.cells #[.slice shz 0 chz, .int .i64 0] 24) = x := ⟨_, rfl⟩
      rw [hw21] at hsz bz3 hx21 ⊢
      clear hw21
      replace h0 := h0.ext hx21
      replace bM := bM.ext hx21
      replace bx5 := bx5.ext hx21
      have hF21 := Ext.trans (hF20) hx21
      clear bz3
      go_cut [48, 49, 50] from 175 to 184 (fun s1 s2 s3 wx => (∃ B a c, s1 = .pointer (some ⟨B, 0, none⟩) ∧ Box wx B 24 #[.slice a 1 c, .int .i64 5] ∧ Als wx (.slice a 1 c) full27.al) ∧ s2 = .int .u8 0 ∧ s3 = .int .i64 0 ∧ Ext w21b wx)
      case first =>
        have bM_0 : World.cell? w21b ⟨w1.heap.size, 0, none⟩ = some (.slice s0 1 c0) := bM.cell 0
        have bM_1 : World.cell? w21b ⟨w1.heap.size, 1, none⟩ = some (.int .i64 5) := bM.cell 1
        refine wp_region_rel (R := (BxX w21b.drew.heap.size 24 2 X7)) BxX.refl (fun _ _ _ => BxX.trans X7_bxr) [PrR.eq _ (.agg #[.slice s0 1 c0, .int .i64 5]), PrR.eq _ (.agg #[.int .i64 0, .int .i64 0, .int .i64 7]), PrR.eq _ (.agg #[.int .u8 1, .int .i64 1, .int .i64 0, .int .i64 0, .int .i64 0]), PrR.eq _ (.agg #[.int .u8 1, .int .i64 2, .int .i64 0, .int .i64 0, .int .i64 0]), (PrR.up (PrRC w21b.drew.heap.size [⟨1, 1, 0, 0, 0⟩, ⟨1, 2, 0, 0, 0⟩])), (PrRV w21b.drew.heap.size (fun a c => .tuple #[.agg #[.slice a 1 c, .int .i64 5], .int .u8 0, .int .i64 0])), (PrRV w21b.drew.heap.size (fun a c => .tuple #[.agg #[.slice a 1 c, .int .i64 5], .int .u8 0, .int .i64 0])), (PrRV w21b.drew.heap.size (fun a c => .agg #[.slice a 1 c, .int .i64 5])), PrR.eq _ (.int .u8 0), PrR.eq _ (.int .i64 0), (PrR.up (PrRB w21b.drew.heap.size 24 2)), (PrRS w21b.drew.heap.size), PrR.eq _ (.int .u8 0), PrR.eq _ (.int .i64 0)] (by kernel_rfl) (by kernel_rfl) ?_ ?_
        · refine ⟨?_, ?_, ?_, ?_, ?_, ?_, ?_, ?_, ?_, ?_, ?_, ?_, ?_, ?_, trivial⟩
          · intro a w hE hd ho
            refine .inl ⟨rfl, ?_⟩
            intro K hK
            have hF : Ext w21b w := Ext.trans ((Ext.refl _).drew) (BxX.to_ext hE (Nat.le_refl _))
            have e1 : a.eval (.tmp 1) = .pointer (some ⟨w1.heap.size, 0, none⟩) := ho 1 (by kernel_rfl)
            rw [eval_tmp] at e1
            have bM_0w := Ext.cell hF bM_0
            have bM_1w := Ext.cell hF bM_1
            clear bM_0 bM_1
            clear hd ho
            replace hK := Lib.hid hK
            go_simp
            exact hK.out _ _ rfl (BxX.refl _)
          · intro a w hE hd ho
            refine .inl ⟨rfl, ?_⟩
            intro K hK
            have hF : Ext w21b w := Ext.trans ((Ext.refl _).drew) (BxX.to_ext hE (Nat.le_refl _))
            clear bM_0 bM_1
            clear hd ho
            replace hK := Lib.hid hK
            go_simp
            exact hK.out _ _ rfl (BxX.refl _)
          · intro a w hE hd ho
            refine .inl ⟨rfl, ?_⟩
            intro K hK
            have hF : Ext w21b w := Ext.trans ((Ext.refl _).drew) (BxX.to_ext hE (Nat.le_refl _))
            clear bM_0 bM_1
            clear hd ho
            replace hK := Lib.hid hK
            go_simp
            refine (law27_num 1 _).mono ?_
            rintro e wz ⟨rfl, hZ⟩
            dsimp only [Cell.val]
            go_simp
            exact hK.out _ _ rfl (BxX.of_ext hZ)
          · intro a w hE hd ho
            refine .inl ⟨rfl, ?_⟩
            intro K hK
            have hF : Ext w21b w := Ext.trans ((Ext.refl _).drew) (BxX.to_ext hE (Nat.le_refl _))
            clear bM_0 bM_1
            clear hd ho
            replace hK := Lib.hid hK
            go_simp
            refine (law27_num 2 _).mono ?_
            rintro e wz ⟨rfl, hZ⟩
            dsimp only [Cell.val]
            go_simp
            exact hK.out _ _ rfl (BxX.of_ext hZ)
          · intro a w hE hd ho
            refine .inl ⟨rfl, ?_⟩
            intro K hK
            have hF : Ext w21b w := Ext.trans ((Ext.refl _).drew) (BxX.to_ext hE (Nat.le_refl _))
            have e178 : a.eval (.tmp 178) = .agg #[.int .u8 1, .int .i64 1, .int .i64 0, .int .i64 0, .int .i64 0] := hd 2 (by kernel_rfl)
            rw [eval_tmp] at e178
            have e179 : a.eval (.tmp 179) = .agg #[.int .u8 1, .int .i64 2, .int .i64 0, .int .i64 0, .int .i64 0] := hd 3 (by kernel_rfl)
            rw [eval_tmp] at e179
            clear bM_0 bM_1
            clear hd ho
            replace hK := Lib.hid hK
            go_simp
            exact hK.out _ _ ⟨(Cls.lit w _ [⟨1, 1, 0, 0, 0⟩, ⟨1, 2, 0, 0, 0⟩] _ _ rfl rfl (by simp [maxLen]) rfl), by decide⟩ (BxX.of_ext ((Ext.refl _).alloc _))
          · intro a w hE hd ho
            refine .inl ⟨rfl, ?_⟩
            intro K hK
            have hF : Ext w21b w := Ext.trans ((Ext.refl _).drew) (BxX.to_ext hE (Nat.le_refl _))
            have e176 : a.eval (.tmp 176) = .agg #[.slice s0 1 c0, .int .i64 5] := hd 0 (by kernel_rfl)
            rw [eval_tmp] at e176
            have e177 : a.eval (.tmp 177) = .agg #[.int .i64 0, .int .i64 0, .int .i64 7] := hd 1 (by kernel_rfl)
            rw [eval_tmp] at e177
            have h180 : Cls w (a.eval (.tmp 180)) [⟨1, 1, 0, 0, 0⟩, ⟨1, 2, 0, 0, 0⟩] := (show Cls w (a.eval (.tmp 180)) [⟨1, 1, 0, 0, 0⟩, ⟨1, 2, 0, 0, 0⟩] ∧ 2 < (([⟨1, 1, 0, 0, 0⟩, ⟨1, 2, 0, 0, 0⟩] : List Cell).flatMap Cell.row).length from hd 4 (by kernel_rfl)).1
            obtain ⟨xa180, xc180, e180, -⟩ := Cls.form h180
            rw [e180] at h180
            rw [eval_tmp] at e180
            clear bM_0 bM_1
            clear hd ho
            replace hK := Lib.hid hK
            go_simp
            refine (cells_StoreAll (m := m5) (l := [⟨1, 1, 0, 0, 0⟩, ⟨1, 2, 0, 0, 0⟩]) ⟨0, 0, 7⟩ (h0.ext hF) (by unfold i64B; decide) h180).mono ?_
            rintro e wz ⟨vz, rfl, fz, hZ⟩
            rw [cn27_q] at fz ⊢
            obtain ⟨vz2, rfl, hzz⟩ := FrM.read fz
            obtain ⟨sz, cz, rfl, -⟩ := hzz.form1 1 rfl
            dsimp only [Mem.zero, full27, List.length]
            go_simp
            exact hK.out _ _ ⟨_, _, rfl, hzz⟩ (BxX.of_ext hZ)
          · intro a w hE hd ho
            refine .inl ⟨rfl, ?_⟩
            intro K hK
            have hF : Ext w21b w := Ext.trans ((Ext.refl _).drew) (BxX.to_ext hE (Nat.le_refl _))
            obtain ⟨xa181, xc181, e181, g181⟩ : ∃ a' c', a.eval (.tmp 181) = (fun a c => .tuple #[.agg #[.slice a 1 c, .int .i64 5], .int .u8 0, .int .i64 0]) a' c' ∧ Als w (.slice a' 1 c') full27.al := hd 5 (by kernel_rfl)
            dsimp only at e181
            rw [eval_tmp] at e181
            clear bM_0 bM_1
            clear hd ho
            replace hK := Lib.hid hK
            go_simp
            exact hK.out _ _ ⟨_, _, rfl, g181⟩ (BxX.refl _)
          · intro a w hE hd ho
            refine .inl ⟨rfl, ?_⟩
            intro K hK
            have hF : Ext w21b w := Ext.trans ((Ext.refl _).drew) (BxX.to_ext hE (Nat.le_refl _))
            obtain ⟨xa175, xc175, e175, g175⟩ : ∃ a' c', a.eval (.tmp 175) = (fun a c => .tuple #[.agg #[.slice a 1 c, .int .i64 5], .int .u8 0, .int .i64 0]) a' c' ∧ Als w (.slice a' 1 c') full27.al := hd 6 (by kernel_rfl)
            dsimp only at e175
            rw [eval_tmp] at e175
            clear bM_0 bM_1
            clear hd ho
            replace hK := Lib.hid hK
            go_simp
            exact hK.out _ _ ⟨_, _, rfl, g175⟩ (BxX.refl _)
          · intro a w hE hd ho
            refine .inl ⟨rfl, ?_⟩
            intro K hK
            have hF : Ext w21b w := Ext.trans ((Ext.refl _).drew) (BxX.to_ext hE (Nat.le_refl _))
            obtain ⟨xa175, xc175, e175, g175⟩ : ∃ a' c', a.eval (.tmp 175) = (fun a c => .tuple #[.agg #[.slice a 1 c, .int .i64 5], .int .u8 0, .int .i64 0]) a' c' ∧ Als w (.slice a' 1 c') full27.al := hd 6 (by kernel_rfl)
            dsimp only at e175
            rw [eval_tmp] at e175
            clear bM_0 bM_1
            clear hd ho
            replace hK := Lib.hid hK
            go_simp
            exact hK.out _ _ rfl (BxX.refl _)
          · intro a w hE hd ho
            refine .inl ⟨rfl, ?_⟩
            intro K hK
            have hF : Ext w21b w := Ext.trans ((Ext.refl _).drew) (BxX.to_ext hE (Nat.le_refl _))
            obtain ⟨xa175, xc175, e175, g175⟩ : ∃ a' c', a.eval (.tmp 175) = (fun a c => .tuple #[.agg #[.slice a 1 c, .int .i64 5], .int .u8 0, .int .i64 0]) a' c' ∧ Als w (.slice a' 1 c') full27.al := hd 6 (by kernel_rfl)
            dsimp only at e175
            rw [eval_tmp] at e175
            clear bM_0 bM_1
            clear hd ho
            replace hK := Lib.hid hK
            go_simp
            exact hK.out _ _ rfl (BxX.refl _)
          · intro a w hE hd ho
            refine .inl ⟨rfl, ?_⟩
            intro K hK
            have hF : Ext w21b w := Ext.trans ((Ext.refl _).drew) (BxX.to_ext hE (Nat.le_refl _))
            clear bM_0 bM_1
            clear hd ho
            replace hK := Lib.hid hK
            go_simp
            exact hK.out _ _ ⟨_, rfl, BxX.size hE, #[.slice none 0 0, .int .i64 0], rfl, Box.new _ _ _⟩ (BxX.of_ext ((Ext.refl _).alloc _))
          · intro a w hE hd ho
            refine .inl ⟨rfl, ?_⟩
            intro K hK
            have hF : Ext w21b w := Ext.trans ((Ext.refl _).drew) (BxX.to_ext hE (Nat.le_refl _))
            obtain ⟨bq, eq, hNb, vs0, hv0, hbx⟩ : ∃ b, a.eval (.tmp 48) = .pointer (some ⟨b, 0, none⟩) ∧ w21b.drew.heap.size ≤ b ∧ BoxT 24 2 w b := hd 10 (by kernel_rfl)
            rw [eval_tmp] at eq
            have hBT : BoxT 24 2 w bq := ⟨vs0, hv0, hbx⟩
            obtain ⟨u0, u1, rfl⟩ : ∃ u0 u1, vs0 = #[u0, u1] := by match vs0, hv0 with | ⟨[u0, u1]⟩, _ => exact ⟨u0, u1, rfl⟩
            have bc0 : World.cell? w ⟨bq, 0, none⟩ = some u0 := hbx.cell 0
            have bf0 := hbx.frozen 0
            have bc1 : World.cell? w ⟨bq, 1, none⟩ = some u1 := hbx.cell 1
            have bf1 := hbx.frozen 1
            have hbl := hbx.lt
            replace hBT := Lib.hid hBT
            obtain ⟨xa182, xc182, e182, g182⟩ : ∃ a' c', a.eval (.tmp 182) = (fun a c => .agg #[.slice a 1 c, .int .i64 5]) a' c' ∧ Als w (.slice a' 1 c') full27.al := hd 7 (by kernel_rfl)
            dsimp only at e182
            rw [eval_tmp] at e182
            clear bM_0 bM_1
            have eq0 := (eval_tmp a 48).trans eq
            replace eq0 := Lib.hid eq0
            clear hd ho
            replace hK := Lib.hid hK
            go_simp
            replace eq0 := eq0.out
            have hEb : ExtBut (· = bq) w (World.setCell (World.setCell w ⟨bq, 0, none⟩ (.slice xa182 1 xc182)) ⟨bq, 1, none⟩ (.int .i64 5)) := (ExtBut.setCell w ⟨bq, 0, none⟩ (.slice xa182 1 xc182)).trans (ExtBut.setCell (World.setCell w ⟨bq, 0, none⟩ (.slice xa182 1 xc182)) ⟨bq, 1, none⟩ (.int .i64 5))
            have hBx : Box (World.setCell (World.setCell w ⟨bq, 0, none⟩ (.slice xa182 1 xc182)) ⟨bq, 1, none⟩ (.int .i64 5)) bq 24 #[.slice xa182 1 xc182, .int .i64 5] := (hbx.set 0 (.slice xa182 1 xc182)).set 1 (.int .i64 5)
            have hB1 : BxR w21b.drew.heap.size 24 2 w (World.setCell w ⟨bq, 0, none⟩ (.slice xa182 1 xc182)) := BxR.set hBT.out hNb 0 _
            have hB2 : BxR w21b.drew.heap.size 24 2 (World.setCell w ⟨bq, 0, none⟩ (.slice xa182 1 xc182)) (World.setCell (World.setCell w ⟨bq, 0, none⟩ (.slice xa182 1 xc182)) ⟨bq, 1, none⟩ (.int .i64 5)) := BxR.set (hB1.boxT hBT.out) hNb 1 _
            have hAl : Als (World.setCell (World.setCell w ⟨bq, 0, none⟩ (.slice xa182 1 xc182)) ⟨bq, 1, none⟩ (.int .i64 5)) (.slice xa182 1 xc182) full27.al := als7_bxr g182 (hB1.trans hB2)
            have hRR : BxX w21b.drew.heap.size 24 2 X7 w (World.setCell (World.setCell w ⟨bq, 0, none⟩ (.slice xa182 1 xc182)) ⟨bq, 1, none⟩ (.int .i64 5)) := BxX.but hEb hBT.out hNb rfl hBx ⟨_, _, rfl, hAl⟩
            exact hK.out undef (World.setCell (World.setCell w ⟨bq, 0, none⟩ (.slice xa182 1 xc182)) ⟨bq, 1, none⟩ (.int .i64 5)) ⟨bq, _, _, eq0, hBx, hAl⟩ hRR
          · intro a w hE hd ho
            refine .inl ⟨rfl, ?_⟩
            intro K hK
            have hF : Ext w21b w := Ext.trans ((Ext.refl _).drew) (BxX.to_ext hE (Nat.le_refl _))
            have e183 : a.eval (.tmp 183) = .int .u8 0 := hd 8 (by kernel_rfl)
            rw [eval_tmp] at e183
            clear bM_0 bM_1
            clear hd ho
            replace hK := Lib.hid hK
            go_simp
            exact hK.out _ _ rfl (BxX.refl _)
          · intro a w hE hd ho
            refine .inl ⟨rfl, ?_⟩
            intro K hK
            have hF : Ext w21b w := Ext.trans ((Ext.refl _).drew) (BxX.to_ext hE (Nat.le_refl _))
            have e184 : a.eval (.tmp 184) = .int .i64 0 := hd 9 (by kernel_rfl)
            rw [eval_tmp] at e184
            clear bM_0 bM_1
            clear hd ho
            replace hK := Lib.hid hK
            go_simp
            exact hK.out _ _ rfl (BxX.refl _)
        · intro vals A w hA hE hv hsv
          have hF : Ext w21b w := Ext.trans ((Ext.refl _).drew) (BxX.to_ext hE (Nat.le_refl _))
          have e1 : vals 12 = .int .u8 0 := hv 12 (by decide)
          have e2 : vals 13 = .int .i64 0 := hv 13 (by decide)
          obtain ⟨bq, xa, xc, eb, hBx, hAl⟩ : ∃ b a c, vals 11 = .pointer (some ⟨b, 0, none⟩) ∧ Box w b 24 #[.slice a 1 c, .int .i64 5] ∧ Als w (.slice a 1 c) full27.al := hv 11 (by decide)
          have e3 : vals 10 = .pointer (some ⟨bq, 0, none⟩) := ((hsv 10).trans (hsv 11).symm).trans eb
          clear hv hsv hE eb
          subst hA
          replace hF := Lib.hid hF; replace hBx := Lib.hid hBx; replace hAl := Lib.hid hAl
          simp only [putAll]
          go_simp
          try rw [e1, e2, e3]
          clear e1 e2 e3
          go_wp2_with fail
          go_meet
          exact ⟨⟨_, _, _, rfl, hBx.out, hAl.out⟩, rfl, rfl, hF.out⟩
      case rest =>
        obtain ⟨⟨BF, aF, cF, rfl, bF, hF27⟩, rfl, rfl, hG19⟩ := hcut
        obtain ⟨wq19, hwq⟩ : ∃ z, wc = z := ⟨_, rfl⟩
        rw [hwq] at hG19 bF hF27 ⊢
        clear hwq
        replace h0 := h0.ext hG19
        replace bM := bM.ext hG19
        replace bx5 := bx5.ext hG19
        have hF22 := Ext.trans (hF21) hG19
        have bM_0 : World.cell? wq19 ⟨w1.heap.size, 0, none⟩ = some (.slice s0 1 c0) := bM.cell 0
        have bM_1 : World.cell? wq19 ⟨w1.heap.size, 1, none⟩ = some (.int .i64 5) := bM.cell 1
        have bM_l := bM.lt
        have bx5_0 : World.cell? wq19 ⟨w8.heap.size, 0, none⟩ = some (.int .u8 0) := bx5.cell 0
        have bx5_1 : World.cell? wq19 ⟨w8.heap.size, 1, none⟩ = some (.int .i64 0) := bx5.cell 1
        have bx5_2 : World.cell? wq19 ⟨w8.heap.size, 2, none⟩ = some (.int .i64 0) := bx5.cell 2
        have bx5_3 : World.cell? wq19 ⟨w8.heap.size, 3, none⟩ = some (.int .i64 0) := bx5.cell 3
        have bx5_4 : World.cell? wq19 ⟨w8.heap.size, 4, none⟩ = some (.int .i64 0) := bx5.cell 4
        have bx5_l := bx5.lt
        have bF_0 : World.cell? wq19 ⟨BF, 0, none⟩ = some (.slice aF 1 cF) := bF.cell 0
        have bF_1 : World.cell? wq19 ⟨BF, 1, none⟩ = some (.int .i64 5) := bF.cell 1
        have bF_l := bF.lt
        go_wp2_with fail
        clear bM_0 bM_1 bM_l
        clear bx5_0 bx5_1 bx5_2 bx5_3 bx5_4 bx5_l
        clear bF_0 bF_1 bF_l
        refine (cells_LoadAll (m := full27) ⟨0, 0, 9⟩ 2 (hF27.ext (by repeat (first | exact Ext.refl _ | apply Ext.alloc | apply Ext.drew))) (by unfold i64B; decide)).mono ?_
        rintro e w24 ⟨vhs, rfl, ohs, hZ23⟩
        have hE23 : Ext wq19 w24 := Ext.trans (by repeat (first | exact Ext.refl _ | apply Ext.alloc | apply Ext.drew)) hZ23
        replace h0 := h0.ext hE23
        replace bM := bM.ext hE23
        replace bx5 := bx5.ext hE23
        replace bF := bF.ext hE23
        replace hF27 := hF27.ext hE23
        have hF23 := Ext.trans (hF22) hE23
        rw [cn27_r] at ohs ⊢
        have hs : Cls w24 vhs [⟨1, 1, 0, 0, 0⟩, ⟨1, 2, 0, 0, 0⟩] := ohs.sl
        obtain ⟨ahs, chs, rfl, -⟩ := hs.form
        clear ohs
        dsimp only at hs ⊢
        have bM_0 : World.cell? w24 ⟨w1.heap.size, 0, none⟩ = some (.slice s0 1 c0) := bM.cell 0
        have bM_1 : World.cell? w24 ⟨w1.heap.size, 1, none⟩ = some (.int .i64 5) := bM.cell 1
        have bM_l := bM.lt
        have bx5_0 : World.cell? w24 ⟨w8.heap.size, 0, none⟩ = some (.int .u8 0) := bx5.cell 0
        have bx5_1 : World.cell? w24 ⟨w8.heap.size, 1, none⟩ = some (.int .i64 0) := bx5.cell 1
        have bx5_2 : World.cell? w24 ⟨w8.heap.size, 2, none⟩ = some (.int .i64 0) := bx5.cell 2
        have bx5_3 : World.cell? w24 ⟨w8.heap.size, 3, none⟩ = some (.int .i64 0) := bx5.cell 3
        have bx5_4 : World.cell? w24 ⟨w8.heap.size, 4, none⟩ = some (.int .i64 0) := bx5.cell 4
        have bx5_l := bx5.lt
        have bF_0 : World.cell? w24 ⟨BF, 0, none⟩ = some (.slice aF 1 cF) := bF.cell 0
        have bF_1 : World.cell? w24 ⟨BF, 1, none⟩ = some (.int .i64 5) := bF.cell 1
        have bF_l := bF.lt
        go_wp2_with fail
        clear bM_0 bM_1 bM_l
        clear bx5_0 bx5_1 bx5_2 bx5_3 bx5_4 bx5_l
        clear bF_0 bF_1 bF_l
        refine (cells_Store (m := full27) ⟨0, 1, 0⟩ ⟨0, 0, 0, 0, 0⟩ (hF27.ext (by repeat (first | exact Ext.refl _ | apply Ext.alloc | apply Ext.drew))) (by unfold i64B; decide)).mono ?_
        rintro e w25 ⟨vhg, rfl, fhg, hZ24⟩
        have hE24 : Ext w24 w25 := Ext.trans (by repeat (first | exact Ext.refl _ | apply Ext.alloc | apply Ext.drew)) hZ24
        replace h0 := h0.ext hE24
        replace bM := bM.ext hE24
        replace bx5 := bx5.ext hE24
        replace bF := bF.ext hE24
        replace hF27 := hF27.ext hE24
        replace hs := hs.ext hE24
        have hF24 := Ext.trans (hF23) hE24
        rw [cn27_s] at fhg
        rw [cn27_s]
        obtain ⟨vhg', rfl, hg⟩ := FrM.read fhg
        obtain ⟨shg, chg, rfl, -⟩ := hg.form
        clear fhg
        dsimp only [Mem.zero]
        have bM_0 : World.cell? w25 ⟨w1.heap.size, 0, none⟩ = some (.slice s0 1 c0) := bM.cell 0
        have bM_1 : World.cell? w25 ⟨w1.heap.size, 1, none⟩ = some (.int .i64 5) := bM.cell 1
        have bM_l := bM.lt
        have bx5_0 : World.cell? w25 ⟨w8.heap.size, 0, none⟩ = some (.int .u8 0) := bx5.cell 0
        have bx5_1 : World.cell? w25 ⟨w8.heap.size, 1, none⟩ = some (.int .i64 0) := bx5.cell 1
        have bx5_2 : World.cell? w25 ⟨w8.heap.size, 2, none⟩ = some (.int .i64 0) := bx5.cell 2
        have bx5_3 : World.cell? w25 ⟨w8.heap.size, 3, none⟩ = some (.int .i64 0) := bx5.cell 3
        have bx5_4 : World.cell? w25 ⟨w8.heap.size, 4, none⟩ = some (.int .i64 0) := bx5.cell 4
        have bx5_l := bx5.lt
        have bF_0 : World.cell? w25 ⟨BF, 0, none⟩ = some (.slice aF 1 cF) := bF.cell 0
        have bF_1 : World.cell? w25 ⟨BF, 1, none⟩ = some (.int .i64 5) := bF.cell 1
        have bF_l := bF.lt
        go_wp2_with fail
        clear bM_0 bM_1 bM_l
        clear bx5_0 bx5_1 bx5_2 bx5_3 bx5_4 bx5_l
        clear bF_0 bF_1 bF_l
        have bG := Box.new w25 24 #[.slice shg again27.al.length chg, .int .i64 again27.next]
        have hsz : Hid ((World.alloc w25 (.cells #[.slice shg again27.al.length chg, .int .i64 again27.next] 24)).heap.size = w25.heap.size + 1) := Hid.mk (by simp)
        have hx25 : Ext w25 (World.alloc w25 (.cells #[.slice shg again27.al.length chg, .int .i64 again27.next] 24)) := (Ext.refl _).alloc _
        obtain ⟨w25b, hw25⟩ : ∃ x, World.alloc w25 (.cells #[.slice shg again27.al.length chg, .int .i64 again27.next] 24) = x := ⟨_, rfl⟩
        rw [hw25] at hsz bG hx25 ⊢
        clear hw25
        replace h0 := h0.ext hx25
        replace bM := bM.ext hx25
        replace bx5 := bx5.ext hx25
        replace bF := bF.ext hx25
        replace hF27 := hF27.ext hx25
        replace hs := hs.ext hx25
        replace hg := hg.ext hx25
        have hF25 := Ext.trans (hF24) hx25
        refine (cells_Load (m := m5) ⟨0, 9223372036854775807, 0⟩ (h0.ext (by repeat (first | exact Ext.refl _ | apply Ext.alloc | apply Ext.drew))) (by unfold i64B; decide)).mono ?_
        rintro e w27 ⟨rfl, hZ26⟩
        have hE26 : Ext w25b w27 := Ext.trans (by repeat (first | exact Ext.refl _ | apply Ext.alloc | apply Ext.drew)) hZ26
        replace h0 := h0.ext hE26
        replace bM := bM.ext hE26
        replace bx5 := bx5.ext hE26
        replace bF := bF.ext hE26
        replace hF27 := hF27.ext hE26
        replace hs := hs.ext hE26
        replace hg := hg.ext hE26
        replace bG := bG.ext hE26
        have hF26 := Ext.trans (hF25) hE26
        rw [cn27_u]
        dsimp only [Cell.val, Cell.zero]
        have hceq : ∀ w : World, (binOp .eql 29 (.agg #[.int .u8 0, .int .i64 0, .int .i64 0, .int .i64 0, .int .i64 0]) (.agg #[.int .u8 0, .int .i64 0, .int .i64 0, .int .i64 0, .int .i64 0])).run Try.prog w = .ok (.bool true) w := fun w => by kernel_rfl
        have bM_0 : World.cell? w27 ⟨w1.heap.size, 0, none⟩ = some (.slice s0 1 c0) := bM.cell 0
        have bM_1 : World.cell? w27 ⟨w1.heap.size, 1, none⟩ = some (.int .i64 5) := bM.cell 1
        have bM_l := bM.lt
        have bx5_0 : World.cell? w27 ⟨w8.heap.size, 0, none⟩ = some (.int .u8 0) := bx5.cell 0
        have bx5_1 : World.cell? w27 ⟨w8.heap.size, 1, none⟩ = some (.int .i64 0) := bx5.cell 1
        have bx5_2 : World.cell? w27 ⟨w8.heap.size, 2, none⟩ = some (.int .i64 0) := bx5.cell 2
        have bx5_3 : World.cell? w27 ⟨w8.heap.size, 3, none⟩ = some (.int .i64 0) := bx5.cell 3
        have bx5_4 : World.cell? w27 ⟨w8.heap.size, 4, none⟩ = some (.int .i64 0) := bx5.cell 4
        have bx5_l := bx5.lt
        have bF_0 : World.cell? w27 ⟨BF, 0, none⟩ = some (.slice aF 1 cF) := bF.cell 0
        have bF_1 : World.cell? w27 ⟨BF, 1, none⟩ = some (.int .i64 5) := bF.cell 1
        have bF_l := bF.lt
        have bG_0 : World.cell? w27 ⟨w25.heap.size, 0, none⟩ = some (.slice shg again27.al.length chg) := bG.cell 0
        have bG_1 : World.cell? w27 ⟨w25.heap.size, 1, none⟩ = some (.int .i64 again27.next) := bG.cell 1
        have bG_l := bG.lt
        go_upto_region 23 with fail
        clear bM_0 bM_1 bM_l
        clear bx5_0 bx5_1 bx5_2 bx5_3 bx5_4 bx5_l
        clear bF_0 bF_1 bF_l
        clear bG_0 bG_1 bG_l
        have bx6 := Box.new w27 29 #[.int .u8 0, .int .i64 0, .int .i64 0, .int .i64 0, .int .i64 0]
        have hsz : Hid ((World.alloc w27 (.cells #[.int .u8 0, .int .i64 0, .int .i64 0, .int .i64 0, .int .i64 0] 29)).heap.size = w27.heap.size + 1) := Hid.mk (by simp)
        have hx27 : Ext w27 (World.alloc w27 (.cells #[.int .u8 0, .int .i64 0, .int .i64 0, .int .i64 0, .int .i64 0] 29)) := (Ext.refl _).alloc _
        obtain ⟨w27b, hw27⟩ : ∃ x, World.alloc w27 (.cells #[.int .u8 0, .int .i64 0, .int .i64 0, .int .i64 0, .int .i64 0] 29) = x := ⟨_, rfl⟩
        rw [hw27] at hsz bx6 hx27 ⊢
        clear hw27
        replace h0 := h0.ext hx27
        replace bM := bM.ext hx27
        replace bx5 := bx5.ext hx27
        replace bF := bF.ext hx27
        replace hF27 := hF27.ext hx27
        replace hs := hs.ext hx27
        replace hg := hg.ext hx27
        replace bG := bG.ext hx27
        have hF27 := Ext.trans (hF26) hx27
        have bx5_0 : World.cell? w27b ⟨w8.heap.size, 0, none⟩ = some (.int .u8 0) := bx5.cell 0
        have bx5_1 : World.cell? w27b ⟨w8.heap.size, 1, none⟩ = some (.int .i64 0) := bx5.cell 1
        have bx5_2 : World.cell? w27b ⟨w8.heap.size, 2, none⟩ = some (.int .i64 0) := bx5.cell 2
        have bx5_3 : World.cell? w27b ⟨w8.heap.size, 3, none⟩ = some (.int .i64 0) := bx5.cell 3
        have bx5_4 : World.cell? w27b ⟨w8.heap.size, 4, none⟩ = some (.int .i64 0) := bx5.cell 4
        have bG_0 : World.cell? w27b ⟨w25.heap.size, 0, none⟩ = some (.slice shg again27.al.length chg) := bG.cell 0
        have bG_1 : World.cell? w27b ⟨w25.heap.size, 1, none⟩ = some (.int .i64 again27.next) := bG.cell 1
        refine wp_region_seq (L := [Pr.eq (.bool true), Pr.eq (.bool true), Pr.eq (.int .i64 8), Pr.eq (.bool true), Pr.eq (.bool true), Pr.eq (.bool true), Pr.eq (.int .i64 8), Pr.eq (.bool true), Pr.eq (.bool true), Pr.eq (.bool true), Pr.eq (.int .i64 2), Pr.eq (.bool true), Pr.eq (.bool true), Pr.eq (.bool true), Pr.eq (.int .i64 2), Pr.eq (.bool true), Pr.eq (.bool true), Pr.eq (.bool true), Pr.eq (.int .i64 0), Pr.eq (.bool true), Pr.eq (.bool true), Pr.eq (.bool true), Pr.eq (.int .u8 3), Pr.eq (.bool true), Pr.eq (.bool true), Pr.eq (.bool true), Pr.eq (.agg #[.int .u8 0, .int .i64 0, .int .i64 0, .int .i64 0, .int .i64 0]), Pr.eq (.agg #[.int .u8 0, .int .i64 0, .int .i64 0, .int .i64 0, .int .i64 0]), Pr.eq (.bool true), Pr.eq (.bool true), Pr.eq (.bool true), Pr.eq (.int .i64 6), Pr.eq (.bool true), Pr.eq (.bool true), Pr.eq (.bool true), Pr.eq (.int .i64 2), Pr.eq (.bool true), Pr.eq (.bool true), Pr.eq (.bool true), Pr.eq (.int .i64 2), Pr.eq (.bool true), Pr.eq (.bool true), Pr.eq (.bool true), Pr.eq (.int .i64 6), Pr.eq (.bool true), Pr.eq (.bool true), Pr.eq (.bool true), Pr.eq (.int .i64 0), Pr.eq (.bool true), Pr.eq (.bool true), Pr.eq (.bool true), Pr.eq (.int .u8 4), Pr.eq (.bool true), Pr.eq (.bool true), Pr.eq (.bool true), Pr.eq (.int .i64 2), Pr.eq (.bool true), Pr.eq (.bool true), Pr.eq (.bool true), Pr.eq (.int .i64 8), Pr.eq (.bool true), Pr.eq (.bool true), Pr.eq (.bool true), Pr.eq (.int .i64 6), Pr.eq (.bool true), Pr.eq (.bool true), Pr.eq (.bool true), Pr.eq (.int .i64 0), Pr.eq (.bool true), Pr.eq (.bool true), Pr.eq (.bool true), Pr.eq (.int .u8 3), Pr.eq (.bool true), Pr.eq (.bool true), Pr.eq (.bool true), Pr.eq (.int .i64 8), Pr.eq (.bool true), Pr.eq (.bool true), Pr.eq (.bool true), Pr.eq (.int .u8 0), Pr.eq (.bool true), Pr.eq (.bool true), Pr.eq (.bool true), Pr.eq (.int .i64 0), Pr.eq (.bool true), Pr.eq (.bool true), Pr.eq (.bool true), Pr.eq (.int .u8 0), Pr.eq (.bool true), Pr.eq (.bool true), Pr.eq (.bool true), Pr.eq (.int .i64 0), Pr.eq (.bool true), Pr.eq (.bool true), Pr.eq (.bool true), Pr.eq (.slice ahs 2 chs), Pr.eq (.agg #[.int .u8 1, .int .i64 1, .int .i64 0, .int .i64 0, .int .i64 0]), Pr.eq (.agg #[.int .u8 1, .int .i64 2, .int .i64 0, .int .i64 0, .int .i64 0]), (PrCl7 [⟨1, 1, 0, 0, 0⟩, ⟨1, 2, 0, 0, 0⟩]), Pr.eq (.bool true), Pr.eq (.bool true), Pr.eq (.bool true), Pr.eq (.int .u8 0), Pr.eq (.bool true), Pr.eq (.bool true), Pr.eq (.bool true), Pr.eq (.int .i64 0), Pr.eq (.bool true), Pr.eq (.bool true), Pr.eq (.bool true), Pr.eq (.agg #[.slice shg again27.al.length chg, .int .i64 again27.next]), Pr.eq (.agg #[.int .u8 0, .int .i64 0, .int .i64 0, .int .i64 0, .int .i64 0]), Pr.eq (.bool true), Pr.eq (.bool true), Pr.eq (.bool true), Pr.eq (.int .i64 6), Pr.eq (.bool true), Pr.eq (.bool true), Pr.eq (.bool true)]) (by kernel_rfl) ?_ ?_
        · refine ⟨?_, ?_, ?_, ?_, ?_, ?_, ?_, ?_, ?_, ?_, ?_, ?_, ?_, ?_, ?_, ?_, ?_, ?_, ?_, ?_, ?_, ?_, ?_, ?_, ?_, ?_, ?_, ?_, ?_, ?_, ?_, ?_, ?_, ?_, ?_, ?_, ?_, ?_, ?_, ?_, ?_, ?_, ?_, ?_, ?_, ?_, ?_, ?_, ?_, ?_, ?_, ?_, ?_, ?_, ?_, ?_, ?_, ?_, ?_, ?_, ?_, ?_, ?_, ?_, ?_, ?_, ?_, ?_, ?_, ?_, ?_, ?_, ?_, ?_, ?_, ?_, ?_, ?_, ?_, ?_, ?_, ?_, ?_, ?_, ?_, ?_, ?_, ?_, ?_, ?_, ?_, ?_, ?_, ?_, ?_, ?_, ?_, ?_, ?_, ?_, ?_, ?_, ?_, ?_, ?_, ?_, ?_, ?_, ?_, ?_, ?_, ?_, ?_, ?_, ?_, ?_, ?_, ?_, ?_, trivial⟩
          · intro a w hE hd ho
            refine .inl ⟨rfl, ?_⟩
            intro K hK
            have hF : Ext w27b w := hE
            clear bx5_0 bx5_1 bx5_2 bx5_3 bx5_4 bG_0 bG_1
            clear hd ho
            replace hK := Lib.hid hK
            go_simp
            refine (law27_alive _).mono ?_
            rintro e wz ⟨rfl, hZ⟩
            go_simp
            exact hK.out _ _ rfl hZ
          · intro a w hE hd ho
            refine .inl ⟨rfl, ?_⟩
            intro K hK
            have hF : Ext w27b w := hE
            have e207 : a.eval (.tmp 207) = .bool true := hd 0 (by kernel_rfl)
            rw [eval_tmp] at e207
            clear bx5_0 bx5_1 bx5_2 bx5_3 bx5_4 bG_0 bG_1
            clear hd ho
            replace hK := Lib.hid hK
            go_simp
            exact hK.out _ _ rfl (Ext.refl _)
          · intro a w hE hd ho
            refine .inl ⟨wanted_by 208 rfl rfl (hd 1 (by kernel_rfl)), ?_⟩
            intro K hK
            have hF : Ext w27b w := hE
            have e5 : a.eval (.tmp 5) = .int .i64 8 := ho 5 (by kernel_rfl)
            rw [eval_tmp] at e5
            clear bx5_0 bx5_1 bx5_2 bx5_3 bx5_4 bG_0 bG_1
            clear hd ho
            replace hK := Lib.hid hK
            go_simp
            exact hK.out _ _ rfl (Ext.refl _)
          · intro a w hE hd ho
            refine .inl ⟨wanted_by 208 rfl rfl (hd 1 (by kernel_rfl)), ?_⟩
            intro K hK
            have hF : Ext w27b w := hE
            have e209 : a.eval (.tmp 209) = .int .i64 8 := hd 2 (by kernel_rfl)
            rw [eval_tmp] at e209
            clear bx5_0 bx5_1 bx5_2 bx5_3 bx5_4 bG_0 bG_1
            clear hd ho
            replace hK := Lib.hid hK
            go_simp
            exact hK.out _ _ rfl (Ext.refl _)
          · intro a w hE hd ho
            refine .inl ⟨rfl, ?_⟩
            intro K hK
            have hF : Ext w27b w := hE
            have e208 : a.eval (.tmp 208) = .bool true := hd 1 (by kernel_rfl)
            rw [eval_tmp] at e208
            have e210 : a.eval (.tmp 210) = .bool true := hd 3 (by kernel_rfl)
            rw [eval_tmp] at e210
            clear bx5_0 bx5_1 bx5_2 bx5_3 bx5_4 bG_0 bG_1
            clear hd ho
            replace hK := Lib.hid hK
            go_simp
            exact hK.out _ _ rfl (Ext.refl _)
          · intro a w hE hd ho
            refine .inl ⟨rfl, ?_⟩
            intro K hK
            have hF : Ext w27b w := hE
            have e211 : a.eval (.tmp 211) = .bool true := hd 4 (by kernel_rfl)
            rw [eval_tmp] at e211
            clear bx5_0 bx5_1 bx5_2 bx5_3 bx5_4 bG_0 bG_1
            clear hd ho
            replace hK := Lib.hid hK
            go_simp
            exact hK.out _ _ rfl (Ext.refl _)
          · intro a w hE hd ho
            refine .inl ⟨wanted_by 212 rfl rfl (hd 5 (by kernel_rfl)), ?_⟩
            intro K hK
            have hF : Ext w27b w := hE
            have e8 : a.eval (.tmp 8) = .int .i64 8 := ho 8 (by kernel_rfl)
            rw [eval_tmp] at e8
            clear bx5_0 bx5_1 bx5_2 bx5_3 bx5_4 bG_0 bG_1
            clear hd ho
            replace hK := Lib.hid hK
            go_simp
            exact hK.out _ _ rfl (Ext.refl _)
          · intro a w hE hd ho
            refine .inl ⟨wanted_by 212 rfl rfl (hd 5 (by kernel_rfl)), ?_⟩
            intro K hK
            have hF : Ext w27b w := hE
            have e213 : a.eval (.tmp 213) = .int .i64 8 := hd 6 (by kernel_rfl)
            rw [eval_tmp] at e213
            clear bx5_0 bx5_1 bx5_2 bx5_3 bx5_4 bG_0 bG_1
            clear hd ho
            replace hK := Lib.hid hK
            go_simp
            exact hK.out _ _ rfl (Ext.refl _)
          · intro a w hE hd ho
            refine .inl ⟨rfl, ?_⟩
            intro K hK
            have hF : Ext w27b w := hE
            have e212 : a.eval (.tmp 212) = .bool true := hd 5 (by kernel_rfl)
            rw [eval_tmp] at e212
            have e214 : a.eval (.tmp 214) = .bool true := hd 7 (by kernel_rfl)
            rw [eval_tmp] at e214
            clear bx5_0 bx5_1 bx5_2 bx5_3 bx5_4 bG_0 bG_1
            clear hd ho
            replace hK := Lib.hid hK
            go_simp
            exact hK.out _ _ rfl (Ext.refl _)
          · intro a w hE hd ho
            refine .inl ⟨rfl, ?_⟩
            intro K hK
            have hF : Ext w27b w := hE
            have e215 : a.eval (.tmp 215) = .bool true := hd 8 (by kernel_rfl)
            rw [eval_tmp] at e215
            clear bx5_0 bx5_1 bx5_2 bx5_3 bx5_4 bG_0 bG_1
            clear hd ho
            replace hK := Lib.hid hK
            go_simp
            exact hK.out _ _ rfl (Ext.refl _)
          · intro a w hE hd ho
            refine .inl ⟨wanted_by 216 rfl rfl (hd 9 (by kernel_rfl)), ?_⟩
            intro K hK
            have hF : Ext w27b w := hE
            have e11 : a.eval (.tmp 11) = .int .i64 2 := ho 11 (by kernel_rfl)
            rw [eval_tmp] at e11
            clear bx5_0 bx5_1 bx5_2 bx5_3 bx5_4 bG_0 bG_1
            clear hd ho
            replace hK := Lib.hid hK
            go_simp
            exact hK.out _ _ rfl (Ext.refl _)
          · intro a w hE hd ho
            refine .inl ⟨wanted_by 216 rfl rfl (hd 9 (by kernel_rfl)), ?_⟩
            intro K hK
            have hF : Ext w27b w := hE
            have e217 : a.eval (.tmp 217) = .int .i64 2 := hd 10 (by kernel_rfl)
            rw [eval_tmp] at e217
            clear bx5_0 bx5_1 bx5_2 bx5_3 bx5_4 bG_0 bG_1
            clear hd ho
            replace hK := Lib.hid hK
            go_simp
            exact hK.out _ _ rfl (Ext.refl _)
          · intro a w hE hd ho
            refine .inl ⟨rfl, ?_⟩
            intro K hK
            have hF : Ext w27b w := hE
            have e216 : a.eval (.tmp 216) = .bool true := hd 9 (by kernel_rfl)
            rw [eval_tmp] at e216
            have e218 : a.eval (.tmp 218) = .bool true := hd 11 (by kernel_rfl)
            rw [eval_tmp] at e218
            clear bx5_0 bx5_1 bx5_2 bx5_3 bx5_4 bG_0 bG_1
            clear hd ho
            replace hK := Lib.hid hK
            go_simp
            exact hK.out _ _ rfl (Ext.refl _)
          · intro a w hE hd ho
            refine .inl ⟨rfl, ?_⟩
            intro K hK
            have hF : Ext w27b w := hE
            have e219 : a.eval (.tmp 219) = .bool true := hd 12 (by kernel_rfl)
            rw [eval_tmp] at e219
            clear bx5_0 bx5_1 bx5_2 bx5_3 bx5_4 bG_0 bG_1
            clear hd ho
            replace hK := Lib.hid hK
            go_simp
            exact hK.out _ _ rfl (Ext.refl _)
          · intro a w hE hd ho
            refine .inl ⟨wanted_by 220 rfl rfl (hd 13 (by kernel_rfl)), ?_⟩
            intro K hK
            have hF : Ext w27b w := hE
            have e14 : a.eval (.tmp 14) = .int .i64 2 := ho 14 (by kernel_rfl)
            rw [eval_tmp] at e14
            clear bx5_0 bx5_1 bx5_2 bx5_3 bx5_4 bG_0 bG_1
            clear hd ho
            replace hK := Lib.hid hK
            go_simp
            exact hK.out _ _ rfl (Ext.refl _)
          · intro a w hE hd ho
            refine .inl ⟨wanted_by 220 rfl rfl (hd 13 (by kernel_rfl)), ?_⟩
            intro K hK
            have hF : Ext w27b w := hE
            have e221 : a.eval (.tmp 221) = .int .i64 2 := hd 14 (by kernel_rfl)
            rw [eval_tmp] at e221
            clear bx5_0 bx5_1 bx5_2 bx5_3 bx5_4 bG_0 bG_1
            clear hd ho
            replace hK := Lib.hid hK
            go_simp
            exact hK.out _ _ rfl (Ext.refl _)
          · intro a w hE hd ho
            refine .inl ⟨rfl, ?_⟩
            intro K hK
            have hF : Ext w27b w := hE
            have e220 : a.eval (.tmp 220) = .bool true := hd 13 (by kernel_rfl)
            rw [eval_tmp] at e220
            have e222 : a.eval (.tmp 222) = .bool true := hd 15 (by kernel_rfl)
            rw [eval_tmp] at e222
            clear bx5_0 bx5_1 bx5_2 bx5_3 bx5_4 bG_0 bG_1
            clear hd ho
            replace hK := Lib.hid hK
            go_simp
            exact hK.out _ _ rfl (Ext.refl _)
          · intro a w hE hd ho
            refine .inl ⟨rfl, ?_⟩
            intro K hK
            have hF : Ext w27b w := hE
            have e223 : a.eval (.tmp 223) = .bool true := hd 16 (by kernel_rfl)
            rw [eval_tmp] at e223
            clear bx5_0 bx5_1 bx5_2 bx5_3 bx5_4 bG_0 bG_1
            clear hd ho
            replace hK := Lib.hid hK
            go_simp
            exact hK.out _ _ rfl (Ext.refl _)
          · intro a w hE hd ho
            refine .inl ⟨wanted_by 224 rfl rfl (hd 17 (by kernel_rfl)), ?_⟩
            intro K hK
            have hF : Ext w27b w := hE
            have e17 : a.eval (.tmp 17) = .int .i64 0 := ho 17 (by kernel_rfl)
            rw [eval_tmp] at e17
            clear bx5_0 bx5_1 bx5_2 bx5_3 bx5_4 bG_0 bG_1
            clear hd ho
            replace hK := Lib.hid hK
            go_simp
            exact hK.out _ _ rfl (Ext.refl _)
          · intro a w hE hd ho
            refine .inl ⟨wanted_by 224 rfl rfl (hd 17 (by kernel_rfl)), ?_⟩
            intro K hK
            have hF : Ext w27b w := hE
            have e225 : a.eval (.tmp 225) = .int .i64 0 := hd 18 (by kernel_rfl)
            rw [eval_tmp] at e225
            clear bx5_0 bx5_1 bx5_2 bx5_3 bx5_4 bG_0 bG_1
            clear hd ho
            replace hK := Lib.hid hK
            go_simp
            exact hK.out _ _ rfl (Ext.refl _)
          · intro a w hE hd ho
            refine .inl ⟨rfl, ?_⟩
            intro K hK
            have hF : Ext w27b w := hE
            have e224 : a.eval (.tmp 224) = .bool true := hd 17 (by kernel_rfl)
            rw [eval_tmp] at e224
            have e226 : a.eval (.tmp 226) = .bool true := hd 19 (by kernel_rfl)
            rw [eval_tmp] at e226
            clear bx5_0 bx5_1 bx5_2 bx5_3 bx5_4 bG_0 bG_1
            clear hd ho
            replace hK := Lib.hid hK
            go_simp
            exact hK.out _ _ rfl (Ext.refl _)
          · intro a w hE hd ho
            refine .inl ⟨rfl, ?_⟩
            intro K hK
            have hF : Ext w27b w := hE
            have e227 : a.eval (.tmp 227) = .bool true := hd 20 (by kernel_rfl)
            rw [eval_tmp] at e227
            clear bx5_0 bx5_1 bx5_2 bx5_3 bx5_4 bG_0 bG_1
            clear hd ho
            replace hK := Lib.hid hK
            go_simp
            exact hK.out _ _ rfl (Ext.refl _)
          · intro a w hE hd ho
            refine .inl ⟨wanted_by 228 rfl rfl (hd 21 (by kernel_rfl)), ?_⟩
            intro K hK
            have hF : Ext w27b w := hE
            have e16 : a.eval (.tmp 16) = .int .u8 3 := ho 16 (by kernel_rfl)
            rw [eval_tmp] at e16
            clear bx5_0 bx5_1 bx5_2 bx5_3 bx5_4 bG_0 bG_1
            clear hd ho
            replace hK := Lib.hid hK
            go_simp
            exact hK.out _ _ rfl (Ext.refl _)
          · intro a w hE hd ho
            refine .inl ⟨wanted_by 228 rfl rfl (hd 21 (by kernel_rfl)), ?_⟩
            intro K hK
            have hF : Ext w27b w := hE
            have e229 : a.eval (.tmp 229) = .int .u8 3 := hd 22 (by kernel_rfl)
            rw [eval_tmp] at e229
            clear bx5_0 bx5_1 bx5_2 bx5_3 bx5_4 bG_0 bG_1
            clear hd ho
            replace hK := Lib.hid hK
            go_simp
            exact hK.out _ _ rfl (Ext.refl _)
          · intro a w hE hd ho
            refine .inl ⟨rfl, ?_⟩
            intro K hK
            have hF : Ext w27b w := hE
            have e228 : a.eval (.tmp 228) = .bool true := hd 21 (by kernel_rfl)
            rw [eval_tmp] at e228
            have e230 : a.eval (.tmp 230) = .bool true := hd 23 (by kernel_rfl)
            rw [eval_tmp] at e230
            clear bx5_0 bx5_1 bx5_2 bx5_3 bx5_4 bG_0 bG_1
            clear hd ho
            replace hK := Lib.hid hK
            go_simp
            exact hK.out _ _ rfl (Ext.refl _)
          · intro a w hE hd ho
            refine .inl ⟨rfl, ?_⟩
            intro K hK
            have hF : Ext w27b w := hE
            have e231 : a.eval (.tmp 231) = .bool true := hd 24 (by kernel_rfl)
            rw [eval_tmp] at e231
            clear bx5_0 bx5_1 bx5_2 bx5_3 bx5_4 bG_0 bG_1
            clear hd ho
            replace hK := Lib.hid hK
            go_simp
            exact hK.out _ _ rfl (Ext.refl _)
          · intro a w hE hd ho
            refine .inl ⟨wanted_by 232 rfl rfl (hd 25 (by kernel_rfl)), ?_⟩
            intro K hK
            have hF : Ext w27b w := hE
            have e15 : a.eval (.tmp 15) = .pointer (some ⟨w8.heap.size, 0, none⟩) := ho 15 (by kernel_rfl)
            rw [eval_tmp] at e15
            have bx5_0w := Ext.cell hF bx5_0
            have bx5_1w := Ext.cell hF bx5_1
            have bx5_2w := Ext.cell hF bx5_2
            have bx5_3w := Ext.cell hF bx5_3
            have bx5_4w := Ext.cell hF bx5_4
            clear bx5_0 bx5_1 bx5_2 bx5_3 bx5_4 bG_0 bG_1
            clear hd ho
            replace hK := Lib.hid hK
            go_simp
            exact hK.out _ _ rfl (Ext.refl _)
          · intro a w hE hd ho
            refine .inl ⟨wanted_by 232 rfl rfl (hd 25 (by kernel_rfl)), ?_⟩
            intro K hK
            have hF : Ext w27b w := hE
            clear bx5_0 bx5_1 bx5_2 bx5_3 bx5_4 bG_0 bG_1
            clear hd ho
            replace hK := Lib.hid hK
            go_simp
            exact hK.out _ _ rfl (Ext.refl _)
          · intro a w hE hd ho
            refine .inl ⟨wanted_by 232 rfl rfl (hd 25 (by kernel_rfl)), ?_⟩
            intro K hK
            have hF : Ext w27b w := hE
            have e233 : a.eval (.tmp 233) = .agg #[.int .u8 0, .int .i64 0, .int .i64 0, .int .i64 0, .int .i64 0] := hd 26 (by kernel_rfl)
            rw [eval_tmp] at e233
            have e234 : a.eval (.tmp 234) = .agg #[.int .u8 0, .int .i64 0, .int .i64 0, .int .i64 0, .int .i64 0] := hd 27 (by kernel_rfl)
            rw [eval_tmp] at e234
            clear bx5_0 bx5_1 bx5_2 bx5_3 bx5_4 bG_0 bG_1
            clear hd ho
            replace hK := Lib.hid hK
            go_simp
            exact hK.out _ _ rfl (Ext.refl _)
          · intro a w hE hd ho
            refine .inl ⟨rfl, ?_⟩
            intro K hK
            have hF : Ext w27b w := hE
            have e232 : a.eval (.tmp 232) = .bool true := hd 25 (by kernel_rfl)
            rw [eval_tmp] at e232
            have e235 : a.eval (.tmp 235) = .bool true := hd 28 (by kernel_rfl)
            rw [eval_tmp] at e235
            clear bx5_0 bx5_1 bx5_2 bx5_3 bx5_4 bG_0 bG_1
            clear hd ho
            replace hK := Lib.hid hK
            go_simp
            exact hK.out _ _ rfl (Ext.refl _)
          · intro a w hE hd ho
            refine .inl ⟨rfl, ?_⟩
            intro K hK
            have hF : Ext w27b w := hE
            have e236 : a.eval (.tmp 236) = .bool true := hd 29 (by kernel_rfl)
            rw [eval_tmp] at e236
            clear bx5_0 bx5_1 bx5_2 bx5_3 bx5_4 bG_0 bG_1
            clear hd ho
            replace hK := Lib.hid hK
            go_simp
            exact hK.out _ _ rfl (Ext.refl _)
          · intro a w hE hd ho
            refine .inl ⟨wanted_by 237 rfl rfl (hd 30 (by kernel_rfl)), ?_⟩
            intro K hK
            have hF : Ext w27b w := hE
            have e20 : a.eval (.tmp 20) = .int .i64 6 := ho 20 (by kernel_rfl)
            rw [eval_tmp] at e20
            clear bx5_0 bx5_1 bx5_2 bx5_3 bx5_4 bG_0 bG_1
            clear hd ho
            replace hK := Lib.hid hK
            go_simp
            exact hK.out _ _ rfl (Ext.refl _)
          · intro a w hE hd ho
            refine .inl ⟨wanted_by 237 rfl rfl (hd 30 (by kernel_rfl)), ?_⟩
            intro K hK
            have hF : Ext w27b w := hE
            have e238 : a.eval (.tmp 238) = .int .i64 6 := hd 31 (by kernel_rfl)
            rw [eval_tmp] at e238
            clear bx5_0 bx5_1 bx5_2 bx5_3 bx5_4 bG_0 bG_1
            clear hd ho
            replace hK := Lib.hid hK
            go_simp
            exact hK.out _ _ rfl (Ext.refl _)
          · intro a w hE hd ho
            refine .inl ⟨rfl, ?_⟩
            intro K hK
            have hF : Ext w27b w := hE
            have e237 : a.eval (.tmp 237) = .bool true := hd 30 (by kernel_rfl)
            rw [eval_tmp] at e237
            have e239 : a.eval (.tmp 239) = .bool true := hd 32 (by kernel_rfl)
            rw [eval_tmp] at e239
            clear bx5_0 bx5_1 bx5_2 bx5_3 bx5_4 bG_0 bG_1
            clear hd ho
            replace hK := Lib.hid hK
            go_simp
            exact hK.out _ _ rfl (Ext.refl _)
          · intro a w hE hd ho
            refine .inl ⟨rfl, ?_⟩
            intro K hK
            have hF : Ext w27b w := hE
            have e240 : a.eval (.tmp 240) = .bool true := hd 33 (by kernel_rfl)
            rw [eval_tmp] at e240
            clear bx5_0 bx5_1 bx5_2 bx5_3 bx5_4 bG_0 bG_1
            clear hd ho
            replace hK := Lib.hid hK
            go_simp
            exact hK.out _ _ rfl (Ext.refl _)
          · intro a w hE hd ho
            refine .inl ⟨wanted_by 241 rfl rfl (hd 34 (by kernel_rfl)), ?_⟩
            intro K hK
            have hF : Ext w27b w := hE
            have e23 : a.eval (.tmp 23) = .int .i64 2 := ho 23 (by kernel_rfl)
            rw [eval_tmp] at e23
            clear bx5_0 bx5_1 bx5_2 bx5_3 bx5_4 bG_0 bG_1
            clear hd ho
            replace hK := Lib.hid hK
            go_simp
            exact hK.out _ _ rfl (Ext.refl _)
          · intro a w hE hd ho
            refine .inl ⟨wanted_by 241 rfl rfl (hd 34 (by kernel_rfl)), ?_⟩
            intro K hK
            have hF : Ext w27b w := hE
            have e242 : a.eval (.tmp 242) = .int .i64 2 := hd 35 (by kernel_rfl)
            rw [eval_tmp] at e242
            clear bx5_0 bx5_1 bx5_2 bx5_3 bx5_4 bG_0 bG_1
            clear hd ho
            replace hK := Lib.hid hK
            go_simp
            exact hK.out _ _ rfl (Ext.refl _)
          · intro a w hE hd ho
            refine .inl ⟨rfl, ?_⟩
            intro K hK
            have hF : Ext w27b w := hE
            have e241 : a.eval (.tmp 241) = .bool true := hd 34 (by kernel_rfl)
            rw [eval_tmp] at e241
            have e243 : a.eval (.tmp 243) = .bool true := hd 36 (by kernel_rfl)
            rw [eval_tmp] at e243
            clear bx5_0 bx5_1 bx5_2 bx5_3 bx5_4 bG_0 bG_1
            clear hd ho
            replace hK := Lib.hid hK
            go_simp
            exact hK.out _ _ rfl (Ext.refl _)
          · intro a w hE hd ho
            refine .inl ⟨rfl, ?_⟩
            intro K hK
            have hF : Ext w27b w := hE
            have e244 : a.eval (.tmp 244) = .bool true := hd 37 (by kernel_rfl)
            rw [eval_tmp] at e244
            clear bx5_0 bx5_1 bx5_2 bx5_3 bx5_4 bG_0 bG_1
            clear hd ho
            replace hK := Lib.hid hK
            go_simp
            exact hK.out _ _ rfl (Ext.refl _)
          · intro a w hE hd ho
            refine .inl ⟨wanted_by 245 rfl rfl (hd 38 (by kernel_rfl)), ?_⟩
            intro K hK
            have hF : Ext w27b w := hE
            have e26 : a.eval (.tmp 26) = .int .i64 2 := ho 26 (by kernel_rfl)
            rw [eval_tmp] at e26
            clear bx5_0 bx5_1 bx5_2 bx5_3 bx5_4 bG_0 bG_1
            clear hd ho
            replace hK := Lib.hid hK
            go_simp
            exact hK.out _ _ rfl (Ext.refl _)
          · intro a w hE hd ho
            refine .inl ⟨wanted_by 245 rfl rfl (hd 38 (by kernel_rfl)), ?_⟩
            intro K hK
            have hF : Ext w27b w := hE
            have e246 : a.eval (.tmp 246) = .int .i64 2 := hd 39 (by kernel_rfl)
            rw [eval_tmp] at e246
            clear bx5_0 bx5_1 bx5_2 bx5_3 bx5_4 bG_0 bG_1
            clear hd ho
            replace hK := Lib.hid hK
            go_simp
            exact hK.out _ _ rfl (Ext.refl _)
          · intro a w hE hd ho
            refine .inl ⟨rfl, ?_⟩
            intro K hK
            have hF : Ext w27b w := hE
            have e245 : a.eval (.tmp 245) = .bool true := hd 38 (by kernel_rfl)
            rw [eval_tmp] at e245
            have e247 : a.eval (.tmp 247) = .bool true := hd 40 (by kernel_rfl)
            rw [eval_tmp] at e247
            clear bx5_0 bx5_1 bx5_2 bx5_3 bx5_4 bG_0 bG_1
            clear hd ho
            replace hK := Lib.hid hK
            go_simp
            exact hK.out _ _ rfl (Ext.refl _)
          · intro a w hE hd ho
            refine .inl ⟨rfl, ?_⟩
            intro K hK
            have hF : Ext w27b w := hE
            have e248 : a.eval (.tmp 248) = .bool true := hd 41 (by kernel_rfl)
            rw [eval_tmp] at e248
            clear bx5_0 bx5_1 bx5_2 bx5_3 bx5_4 bG_0 bG_1
            clear hd ho
            replace hK := Lib.hid hK
            go_simp
            exact hK.out _ _ rfl (Ext.refl _)
          · intro a w hE hd ho
            refine .inl ⟨wanted_by 249 rfl rfl (hd 42 (by kernel_rfl)), ?_⟩
            intro K hK
            have hF : Ext w27b w := hE
            have e29 : a.eval (.tmp 29) = .int .i64 6 := ho 29 (by kernel_rfl)
            rw [eval_tmp] at e29
            clear bx5_0 bx5_1 bx5_2 bx5_3 bx5_4 bG_0 bG_1
            clear hd ho
            replace hK := Lib.hid hK
            go_simp
            exact hK.out _ _ rfl (Ext.refl _)
          · intro a w hE hd ho
            refine .inl ⟨wanted_by 249 rfl rfl (hd 42 (by kernel_rfl)), ?_⟩
            intro K hK
            have hF : Ext w27b w := hE
            have e250 : a.eval (.tmp 250) = .int .i64 6 := hd 43 (by kernel_rfl)
            rw [eval_tmp] at e250
            clear bx5_0 bx5_1 bx5_2 bx5_3 bx5_4 bG_0 bG_1
            clear hd ho
            replace hK := Lib.hid hK
            go_simp
            exact hK.out _ _ rfl (Ext.refl _)
          · intro a w hE hd ho
            refine .inl ⟨rfl, ?_⟩
            intro K hK
            have hF : Ext w27b w := hE
            have e249 : a.eval (.tmp 249) = .bool true := hd 42 (by kernel_rfl)
            rw [eval_tmp] at e249
            have e251 : a.eval (.tmp 251) = .bool true := hd 44 (by kernel_rfl)
            rw [eval_tmp] at e251
            clear bx5_0 bx5_1 bx5_2 bx5_3 bx5_4 bG_0 bG_1
            clear hd ho
            replace hK := Lib.hid hK
            go_simp
            exact hK.out _ _ rfl (Ext.refl _)
          · intro a w hE hd ho
            refine .inl ⟨rfl, ?_⟩
            intro K hK
            have hF : Ext w27b w := hE
            have e252 : a.eval (.tmp 252) = .bool true := hd 45 (by kernel_rfl)
            rw [eval_tmp] at e252
            clear bx5_0 bx5_1 bx5_2 bx5_3 bx5_4 bG_0 bG_1
            clear hd ho
            replace hK := Lib.hid hK
            go_simp
            exact hK.out _ _ rfl (Ext.refl _)
          · intro a w hE hd ho
            refine .inl ⟨wanted_by 253 rfl rfl (hd 46 (by kernel_rfl)), ?_⟩
            intro K hK
            have hF : Ext w27b w := hE
            have e32 : a.eval (.tmp 32) = .int .i64 0 := ho 32 (by kernel_rfl)
            rw [eval_tmp] at e32
            clear bx5_0 bx5_1 bx5_2 bx5_3 bx5_4 bG_0 bG_1
            clear hd ho
            replace hK := Lib.hid hK
            go_simp
            exact hK.out _ _ rfl (Ext.refl _)
          · intro a w hE hd ho
            refine .inl ⟨wanted_by 253 rfl rfl (hd 46 (by kernel_rfl)), ?_⟩
            intro K hK
            have hF : Ext w27b w := hE
            have e254 : a.eval (.tmp 254) = .int .i64 0 := hd 47 (by kernel_rfl)
            rw [eval_tmp] at e254
            clear bx5_0 bx5_1 bx5_2 bx5_3 bx5_4 bG_0 bG_1
            clear hd ho
            replace hK := Lib.hid hK
            go_simp
            exact hK.out _ _ rfl (Ext.refl _)
          · intro a w hE hd ho
            refine .inl ⟨rfl, ?_⟩
            intro K hK
            have hF : Ext w27b w := hE
            have e253 : a.eval (.tmp 253) = .bool true := hd 46 (by kernel_rfl)
            rw [eval_tmp] at e253
            have e255 : a.eval (.tmp 255) = .bool true := hd 48 (by kernel_rfl)
            rw [eval_tmp] at e255
            clear bx5_0 bx5_1 bx5_2 bx5_3 bx5_4 bG_0 bG_1
            clear hd ho
            replace hK := Lib.hid hK
            go_simp
            exact hK.out _ _ rfl (Ext.refl _)
          · intro a w hE hd ho
            refine .inl ⟨rfl, ?_⟩
            intro K hK
            have hF : Ext w27b w := hE
            have e256 : a.eval (.tmp 256) = .bool true := hd 49 (by kernel_rfl)
            rw [eval_tmp] at e256
            clear bx5_0 bx5_1 bx5_2 bx5_3 bx5_4 bG_0 bG_1
            clear hd ho
            replace hK := Lib.hid hK
            go_simp
            exact hK.out _ _ rfl (Ext.refl _)
          · intro a w hE hd ho
            refine .inl ⟨wanted_by 257 rfl rfl (hd 50 (by kernel_rfl)), ?_⟩
            intro K hK
            have hF : Ext w27b w := hE
            have e31 : a.eval (.tmp 31) = .int .u8 4 := ho 31 (by kernel_rfl)
            rw [eval_tmp] at e31
            clear bx5_0 bx5_1 bx5_2 bx5_3 bx5_4 bG_0 bG_1
            clear hd ho
            replace hK := Lib.hid hK
            go_simp
            exact hK.out _ _ rfl (Ext.refl _)
          · intro a w hE hd ho
            refine .inl ⟨wanted_by 257 rfl rfl (hd 50 (by kernel_rfl)), ?_⟩
            intro K hK
            have hF : Ext w27b w := hE
            have e258 : a.eval (.tmp 258) = .int .u8 4 := hd 51 (by kernel_rfl)
            rw [eval_tmp] at e258
            clear bx5_0 bx5_1 bx5_2 bx5_3 bx5_4 bG_0 bG_1
            clear hd ho
            replace hK := Lib.hid hK
            go_simp
            exact hK.out _ _ rfl (Ext.refl _)
          · intro a w hE hd ho
            refine .inl ⟨rfl, ?_⟩
            intro K hK
            have hF : Ext w27b w := hE
            have e257 : a.eval (.tmp 257) = .bool true := hd 50 (by kernel_rfl)
            rw [eval_tmp] at e257
            have e259 : a.eval (.tmp 259) = .bool true := hd 52 (by kernel_rfl)
            rw [eval_tmp] at e259
            clear bx5_0 bx5_1 bx5_2 bx5_3 bx5_4 bG_0 bG_1
            clear hd ho
            replace hK := Lib.hid hK
            go_simp
            exact hK.out _ _ rfl (Ext.refl _)
          · intro a w hE hd ho
            refine .inl ⟨rfl, ?_⟩
            intro K hK
            have hF : Ext w27b w := hE
            have e260 : a.eval (.tmp 260) = .bool true := hd 53 (by kernel_rfl)
            rw [eval_tmp] at e260
            clear bx5_0 bx5_1 bx5_2 bx5_3 bx5_4 bG_0 bG_1
            clear hd ho
            replace hK := Lib.hid hK
            go_simp
            exact hK.out _ _ rfl (Ext.refl _)
          · intro a w hE hd ho
            refine .inl ⟨wanted_by 261 rfl rfl (hd 54 (by kernel_rfl)), ?_⟩
            intro K hK
            have hF : Ext w27b w := hE
            have e35 : a.eval (.tmp 35) = .int .i64 2 := ho 35 (by kernel_rfl)
            rw [eval_tmp] at e35
            clear bx5_0 bx5_1 bx5_2 bx5_3 bx5_4 bG_0 bG_1
            clear hd ho
            replace hK := Lib.hid hK
            go_simp
            exact hK.out _ _ rfl (Ext.refl _)
          · intro a w hE hd ho
            refine .inl ⟨wanted_by 261 rfl rfl (hd 54 (by kernel_rfl)), ?_⟩
            intro K hK
            have hF : Ext w27b w := hE
            have e262 : a.eval (.tmp 262) = .int .i64 2 := hd 55 (by kernel_rfl)
            rw [eval_tmp] at e262
            clear bx5_0 bx5_1 bx5_2 bx5_3 bx5_4 bG_0 bG_1
            clear hd ho
            replace hK := Lib.hid hK
            go_simp
            exact hK.out _ _ rfl (Ext.refl _)
          · intro a w hE hd ho
            refine .inl ⟨rfl, ?_⟩
            intro K hK
            have hF : Ext w27b w := hE
            have e261 : a.eval (.tmp 261) = .bool true := hd 54 (by kernel_rfl)
            rw [eval_tmp] at e261
            have e263 : a.eval (.tmp 263) = .bool true := hd 56 (by kernel_rfl)
            rw [eval_tmp] at e263
            clear bx5_0 bx5_1 bx5_2 bx5_3 bx5_4 bG_0 bG_1
            clear hd ho
            replace hK := Lib.hid hK
            go_simp
            exact hK.out _ _ rfl (Ext.refl _)
          · intro a w hE hd ho
            refine .inl ⟨rfl, ?_⟩
            intro K hK
            have hF : Ext w27b w := hE
            have e264 : a.eval (.tmp 264) = .bool true := hd 57 (by kernel_rfl)
            rw [eval_tmp] at e264
            clear bx5_0 bx5_1 bx5_2 bx5_3 bx5_4 bG_0 bG_1
            clear hd ho
            replace hK := Lib.hid hK
            go_simp
            exact hK.out _ _ rfl (Ext.refl _)
          · intro a w hE hd ho
            refine .inl ⟨wanted_by 265 rfl rfl (hd 58 (by kernel_rfl)), ?_⟩
            intro K hK
            have hF : Ext w27b w := hE
            have e38 : a.eval (.tmp 38) = .int .i64 8 := ho 38 (by kernel_rfl)
            rw [eval_tmp] at e38
            clear bx5_0 bx5_1 bx5_2 bx5_3 bx5_4 bG_0 bG_1
            clear hd ho
            replace hK := Lib.hid hK
            go_simp
            exact hK.out _ _ rfl (Ext.refl _)
          · intro a w hE hd ho
            refine .inl ⟨wanted_by 265 rfl rfl (hd 58 (by kernel_rfl)), ?_⟩
            intro K hK
            have hF : Ext w27b w := hE
            have e266 : a.eval (.tmp 266) = .int .i64 8 := hd 59 (by kernel_rfl)
            rw [eval_tmp] at e266
            clear bx5_0 bx5_1 bx5_2 bx5_3 bx5_4 bG_0 bG_1
            clear hd ho
            replace hK := Lib.hid hK
            go_simp
            exact hK.out _ _ rfl (Ext.refl _)
          · intro a w hE hd ho
            refine .inl ⟨rfl, ?_⟩
            intro K hK
            have hF : Ext w27b w := hE
            have e265 : a.eval (.tmp 265) = .bool true := hd 58 (by kernel_rfl)
            rw [eval_tmp] at e265
            have e267 : a.eval (.tmp 267) = .bool true := hd 60 (by kernel_rfl)
            rw [eval_tmp] at e267
            clear bx5_0 bx5_1 bx5_2 bx5_3 bx5_4 bG_0 bG_1
            clear hd ho
            replace hK := Lib.hid hK
            go_simp
            exact hK.out _ _ rfl (Ext.refl _)
          · intro a w hE hd ho
            refine .inl ⟨rfl, ?_⟩
            intro K hK
            have hF : Ext w27b w := hE
            have e268 : a.eval (.tmp 268) = .bool true := hd 61 (by kernel_rfl)
            rw [eval_tmp] at e268
            clear bx5_0 bx5_1 bx5_2 bx5_3 bx5_4 bG_0 bG_1
            clear hd ho
            replace hK := Lib.hid hK
            go_simp
            exact hK.out _ _ rfl (Ext.refl _)
          · intro a w hE hd ho
            refine .inl ⟨wanted_by 269 rfl rfl (hd 62 (by kernel_rfl)), ?_⟩
            intro K hK
            have hF : Ext w27b w := hE
            have e41 : a.eval (.tmp 41) = .int .i64 6 := ho 41 (by kernel_rfl)
            rw [eval_tmp] at e41
            clear bx5_0 bx5_1 bx5_2 bx5_3 bx5_4 bG_0 bG_1
            clear hd ho
            replace hK := Lib.hid hK
            go_simp
            exact hK.out _ _ rfl (Ext.refl _)
          · intro a w hE hd ho
            refine .inl ⟨wanted_by 269 rfl rfl (hd 62 (by kernel_rfl)), ?_⟩
            intro K hK
            have hF : Ext w27b w := hE
            have e270 : a.eval (.tmp 270) = .int .i64 6 := hd 63 (by kernel_rfl)
            rw [eval_tmp] at e270
            clear bx5_0 bx5_1 bx5_2 bx5_3 bx5_4 bG_0 bG_1
            clear hd ho
            replace hK := Lib.hid hK
            go_simp
            exact hK.out _ _ rfl (Ext.refl _)
          · intro a w hE hd ho
            refine .inl ⟨rfl, ?_⟩
            intro K hK
            have hF : Ext w27b w := hE
            have e269 : a.eval (.tmp 269) = .bool true := hd 62 (by kernel_rfl)
            rw [eval_tmp] at e269
            have e271 : a.eval (.tmp 271) = .bool true := hd 64 (by kernel_rfl)
            rw [eval_tmp] at e271
            clear bx5_0 bx5_1 bx5_2 bx5_3 bx5_4 bG_0 bG_1
            clear hd ho
            replace hK := Lib.hid hK
            go_simp
            exact hK.out _ _ rfl (Ext.refl _)
          · intro a w hE hd ho
            refine .inl ⟨rfl, ?_⟩
            intro K hK
            have hF : Ext w27b w := hE
            have e272 : a.eval (.tmp 272) = .bool true := hd 65 (by kernel_rfl)
            rw [eval_tmp] at e272
            clear bx5_0 bx5_1 bx5_2 bx5_3 bx5_4 bG_0 bG_1
            clear hd ho
            replace hK := Lib.hid hK
            go_simp
            exact hK.out _ _ rfl (Ext.refl _)
          · intro a w hE hd ho
            refine .inl ⟨wanted_by 273 rfl rfl (hd 66 (by kernel_rfl)), ?_⟩
            intro K hK
            have hF : Ext w27b w := hE
            have e44 : a.eval (.tmp 44) = .int .i64 0 := ho 44 (by kernel_rfl)
            rw [eval_tmp] at e44
            clear bx5_0 bx5_1 bx5_2 bx5_3 bx5_4 bG_0 bG_1
            clear hd ho
            replace hK := Lib.hid hK
            go_simp
            exact hK.out _ _ rfl (Ext.refl _)
          · intro a w hE hd ho
            refine .inl ⟨wanted_by 273 rfl rfl (hd 66 (by kernel_rfl)), ?_⟩
            intro K hK
            have hF : Ext w27b w := hE
            have e274 : a.eval (.tmp 274) = .int .i64 0 := hd 67 (by kernel_rfl)
            rw [eval_tmp] at e274
            clear bx5_0 bx5_1 bx5_2 bx5_3 bx5_4 bG_0 bG_1
            clear hd ho
            replace hK := Lib.hid hK
            go_simp
            exact hK.out _ _ rfl (Ext.refl _)
          · intro a w hE hd ho
            refine .inl ⟨rfl, ?_⟩
            intro K hK
            have hF : Ext w27b w := hE
            have e273 : a.eval (.tmp 273) = .bool true := hd 66 (by kernel_rfl)
            rw [eval_tmp] at e273
            have e275 : a.eval (.tmp 275) = .bool true := hd 68 (by kernel_rfl)
            rw [eval_tmp] at e275
            clear bx5_0 bx5_1 bx5_2 bx5_3 bx5_4 bG_0 bG_1
            clear hd ho
            replace hK := Lib.hid hK
            go_simp
            exact hK.out _ _ rfl (Ext.refl _)
          · intro a w hE hd ho
            refine .inl ⟨rfl, ?_⟩
            intro K hK
            have hF : Ext w27b w := hE
            have e276 : a.eval (.tmp 276) = .bool true := hd 69 (by kernel_rfl)
            rw [eval_tmp] at e276
            clear bx5_0 bx5_1 bx5_2 bx5_3 bx5_4 bG_0 bG_1
            clear hd ho
            replace hK := Lib.hid hK
            go_simp
            exact hK.out _ _ rfl (Ext.refl _)
          · intro a w hE hd ho
            refine .inl ⟨wanted_by 277 rfl rfl (hd 70 (by kernel_rfl)), ?_⟩
            intro K hK
            have hF : Ext w27b w := hE
            have e43 : a.eval (.tmp 43) = .int .u8 3 := ho 43 (by kernel_rfl)
            rw [eval_tmp] at e43
            clear bx5_0 bx5_1 bx5_2 bx5_3 bx5_4 bG_0 bG_1
            clear hd ho
            replace hK := Lib.hid hK
            go_simp
            exact hK.out _ _ rfl (Ext.refl _)
          · intro a w hE hd ho
            refine .inl ⟨wanted_by 277 rfl rfl (hd 70 (by kernel_rfl)), ?_⟩
            intro K hK
            have hF : Ext w27b w := hE
            have e278 : a.eval (.tmp 278) = .int .u8 3 := hd 71 (by kernel_rfl)
            rw [eval_tmp] at e278
            clear bx5_0 bx5_1 bx5_2 bx5_3 bx5_4 bG_0 bG_1
            clear hd ho
            replace hK := Lib.hid hK
            go_simp
            exact hK.out _ _ rfl (Ext.refl _)
          · intro a w hE hd ho
            refine .inl ⟨rfl, ?_⟩
            intro K hK
            have hF : Ext w27b w := hE
            have e277 : a.eval (.tmp 277) = .bool true := hd 70 (by kernel_rfl)
            rw [eval_tmp] at e277
            have e279 : a.eval (.tmp 279) = .bool true := hd 72 (by kernel_rfl)
            rw [eval_tmp] at e279
            clear bx5_0 bx5_1 bx5_2 bx5_3 bx5_4 bG_0 bG_1
            clear hd ho
            replace hK := Lib.hid hK
            go_simp
            exact hK.out _ _ rfl (Ext.refl _)
          · intro a w hE hd ho
            refine .inl ⟨rfl, ?_⟩
            intro K hK
            have hF : Ext w27b w := hE
            have e280 : a.eval (.tmp 280) = .bool true := hd 73 (by kernel_rfl)
            rw [eval_tmp] at e280
            clear bx5_0 bx5_1 bx5_2 bx5_3 bx5_4 bG_0 bG_1
            clear hd ho
            replace hK := Lib.hid hK
            go_simp
            exact hK.out _ _ rfl (Ext.refl _)
          · intro a w hE hd ho
            refine .inl ⟨wanted_by 281 rfl rfl (hd 74 (by kernel_rfl)), ?_⟩
            intro K hK
            have hF : Ext w27b w := hE
            have e47 : a.eval (.tmp 47) = .int .i64 8 := ho 47 (by kernel_rfl)
            rw [eval_tmp] at e47
            clear bx5_0 bx5_1 bx5_2 bx5_3 bx5_4 bG_0 bG_1
            clear hd ho
            replace hK := Lib.hid hK
            go_simp
            exact hK.out _ _ rfl (Ext.refl _)
          · intro a w hE hd ho
            refine .inl ⟨wanted_by 281 rfl rfl (hd 74 (by kernel_rfl)), ?_⟩
            intro K hK
            have hF : Ext w27b w := hE
            have e282 : a.eval (.tmp 282) = .int .i64 8 := hd 75 (by kernel_rfl)
            rw [eval_tmp] at e282
            clear bx5_0 bx5_1 bx5_2 bx5_3 bx5_4 bG_0 bG_1
            clear hd ho
            replace hK := Lib.hid hK
            go_simp
            exact hK.out _ _ rfl (Ext.refl _)
          · intro a w hE hd ho
            refine .inl ⟨rfl, ?_⟩
            intro K hK
            have hF : Ext w27b w := hE
            have e281 : a.eval (.tmp 281) = .bool true := hd 74 (by kernel_rfl)
            rw [eval_tmp] at e281
            have e283 : a.eval (.tmp 283) = .bool true := hd 76 (by kernel_rfl)
            rw [eval_tmp] at e283
            clear bx5_0 bx5_1 bx5_2 bx5_3 bx5_4 bG_0 bG_1
            clear hd ho
            replace hK := Lib.hid hK
            go_simp
            exact hK.out _ _ rfl (Ext.refl _)
          · intro a w hE hd ho
            refine .inl ⟨rfl, ?_⟩
            intro K hK
            have hF : Ext w27b w := hE
            have e284 : a.eval (.tmp 284) = .bool true := hd 77 (by kernel_rfl)
            rw [eval_tmp] at e284
            clear bx5_0 bx5_1 bx5_2 bx5_3 bx5_4 bG_0 bG_1
            clear hd ho
            replace hK := Lib.hid hK
            go_simp
            exact hK.out _ _ rfl (Ext.refl _)
          · intro a w hE hd ho
            refine .inl ⟨wanted_by 285 rfl rfl (hd 78 (by kernel_rfl)), ?_⟩
            intro K hK
            have hF : Ext w27b w := hE
            have e49 : a.eval (.tmp 49) = .int .u8 0 := ho 49 (by kernel_rfl)
            rw [eval_tmp] at e49
            clear bx5_0 bx5_1 bx5_2 bx5_3 bx5_4 bG_0 bG_1
            clear hd ho
            replace hK := Lib.hid hK
            go_simp
            exact hK.out _ _ rfl (Ext.refl _)
          · intro a w hE hd ho
            refine .inl ⟨wanted_by 285 rfl rfl (hd 78 (by kernel_rfl)), ?_⟩
            intro K hK
            have hF : Ext w27b w := hE
            have e286 : a.eval (.tmp 286) = .int .u8 0 := hd 79 (by kernel_rfl)
            rw [eval_tmp] at e286
            clear bx5_0 bx5_1 bx5_2 bx5_3 bx5_4 bG_0 bG_1
            clear hd ho
            replace hK := Lib.hid hK
            go_simp
            exact hK.out _ _ rfl (Ext.refl _)
          · intro a w hE hd ho
            refine .inl ⟨rfl, ?_⟩
            intro K hK
            have hF : Ext w27b w := hE
            have e285 : a.eval (.tmp 285) = .bool true := hd 78 (by kernel_rfl)
            rw [eval_tmp] at e285
            have e287 : a.eval (.tmp 287) = .bool true := hd 80 (by kernel_rfl)
            rw [eval_tmp] at e287
            clear bx5_0 bx5_1 bx5_2 bx5_3 bx5_4 bG_0 bG_1
            clear hd ho
            replace hK := Lib.hid hK
            go_simp
            exact hK.out _ _ rfl (Ext.refl _)
          · intro a w hE hd ho
            refine .inl ⟨rfl, ?_⟩
            intro K hK
            have hF : Ext w27b w := hE
            have e288 : a.eval (.tmp 288) = .bool true := hd 81 (by kernel_rfl)
            rw [eval_tmp] at e288
            clear bx5_0 bx5_1 bx5_2 bx5_3 bx5_4 bG_0 bG_1
            clear hd ho
            replace hK := Lib.hid hK
            go_simp
            exact hK.out _ _ rfl (Ext.refl _)
          · intro a w hE hd ho
            refine .inl ⟨wanted_by 289 rfl rfl (hd 82 (by kernel_rfl)), ?_⟩
            intro K hK
            have hF : Ext w27b w := hE
            have e50 : a.eval (.tmp 50) = .int .i64 0 := ho 50 (by kernel_rfl)
            rw [eval_tmp] at e50
            clear bx5_0 bx5_1 bx5_2 bx5_3 bx5_4 bG_0 bG_1
            clear hd ho
            replace hK := Lib.hid hK
            go_simp
            exact hK.out _ _ rfl (Ext.refl _)
          · intro a w hE hd ho
            refine .inl ⟨wanted_by 289 rfl rfl (hd 82 (by kernel_rfl)), ?_⟩
            intro K hK
            have hF : Ext w27b w := hE
            have e290 : a.eval (.tmp 290) = .int .i64 0 := hd 83 (by kernel_rfl)
            rw [eval_tmp] at e290
            clear bx5_0 bx5_1 bx5_2 bx5_3 bx5_4 bG_0 bG_1
            clear hd ho
            replace hK := Lib.hid hK
            go_simp
            exact hK.out _ _ rfl (Ext.refl _)
          · intro a w hE hd ho
            refine .inl ⟨rfl, ?_⟩
            intro K hK
            have hF : Ext w27b w := hE
            have e289 : a.eval (.tmp 289) = .bool true := hd 82 (by kernel_rfl)
            rw [eval_tmp] at e289
            have e291 : a.eval (.tmp 291) = .bool true := hd 84 (by kernel_rfl)
            rw [eval_tmp] at e291
            clear bx5_0 bx5_1 bx5_2 bx5_3 bx5_4 bG_0 bG_1
            clear hd ho
            replace hK := Lib.hid hK
            go_simp
            exact hK.out _ _ rfl (Ext.refl _)
          · intro a w hE hd ho
            refine .inl ⟨rfl, ?_⟩
            intro K hK
            have hF : Ext w27b w := hE
            have e292 : a.eval (.tmp 292) = .bool true := hd 85 (by kernel_rfl)
            rw [eval_tmp] at e292
            clear bx5_0 bx5_1 bx5_2 bx5_3 bx5_4 bG_0 bG_1
            clear hd ho
            replace hK := Lib.hid hK
            go_simp
            exact hK.out _ _ rfl (Ext.refl _)
          · intro a w hE hd ho
            refine .inl ⟨wanted_by 293 rfl rfl (hd 86 (by kernel_rfl)), ?_⟩
            intro K hK
            have hF : Ext w27b w := hE
            have e52 : a.eval (.tmp 52) = .int .u8 0 := ho 52 (by kernel_rfl)
            rw [eval_tmp] at e52
            clear bx5_0 bx5_1 bx5_2 bx5_3 bx5_4 bG_0 bG_1
            clear hd ho
            replace hK := Lib.hid hK
            go_simp
            exact hK.out _ _ rfl (Ext.refl _)
          · intro a w hE hd ho
            refine .inl ⟨wanted_by 293 rfl rfl (hd 86 (by kernel_rfl)), ?_⟩
            intro K hK
            have hF : Ext w27b w := hE
            have e294 : a.eval (.tmp 294) = .int .u8 0 := hd 87 (by kernel_rfl)
            rw [eval_tmp] at e294
            clear bx5_0 bx5_1 bx5_2 bx5_3 bx5_4 bG_0 bG_1
            clear hd ho
            replace hK := Lib.hid hK
            go_simp
            exact hK.out _ _ rfl (Ext.refl _)
          · intro a w hE hd ho
            refine .inl ⟨rfl, ?_⟩
            intro K hK
            have hF : Ext w27b w := hE
            have e293 : a.eval (.tmp 293) = .bool true := hd 86 (by kernel_rfl)
            rw [eval_tmp] at e293
            have e295 : a.eval (.tmp 295) = .bool true := hd 88 (by kernel_rfl)
            rw [eval_tmp] at e295
            clear bx5_0 bx5_1 bx5_2 bx5_3 bx5_4 bG_0 bG_1
            clear hd ho
            replace hK := Lib.hid hK
            go_simp
            exact hK.out _ _ rfl (Ext.refl _)
          · intro a w hE hd ho
            refine .inl ⟨rfl, ?_⟩
            intro K hK
            have hF : Ext w27b w := hE
            have e296 : a.eval (.tmp 296) = .bool true := hd 89 (by kernel_rfl)
            rw [eval_tmp] at e296
            clear bx5_0 bx5_1 bx5_2 bx5_3 bx5_4 bG_0 bG_1
            clear hd ho
            replace hK := Lib.hid hK
            go_simp
            exact hK.out _ _ rfl (Ext.refl _)
          · intro a w hE hd ho
            refine .inl ⟨wanted_by 297 rfl rfl (hd 90 (by kernel_rfl)), ?_⟩
            intro K hK
            have hF : Ext w27b w := hE
            have e53 : a.eval (.tmp 53) = .int .i64 0 := ho 53 (by kernel_rfl)
            rw [eval_tmp] at e53
            clear bx5_0 bx5_1 bx5_2 bx5_3 bx5_4 bG_0 bG_1
            clear hd ho
            replace hK := Lib.hid hK
            go_simp
            exact hK.out _ _ rfl (Ext.refl _)
          · intro a w hE hd ho
            refine .inl ⟨wanted_by 297 rfl rfl (hd 90 (by kernel_rfl)), ?_⟩
            intro K hK
            have hF : Ext w27b w := hE
            have e298 : a.eval (.tmp 298) = .int .i64 0 := hd 91 (by kernel_rfl)
            rw [eval_tmp] at e298
            clear bx5_0 bx5_1 bx5_2 bx5_3 bx5_4 bG_0 bG_1
            clear hd ho
            replace hK := Lib.hid hK
            go_simp
            exact hK.out _ _ rfl (Ext.refl _)
          · intro a w hE hd ho
            refine .inl ⟨rfl, ?_⟩
            intro K hK
            have hF : Ext w27b w := hE
            have e297 : a.eval (.tmp 297) = .bool true := hd 90 (by kernel_rfl)
            rw [eval_tmp] at e297
            have e299 : a.eval (.tmp 299) = .bool true := hd 92 (by kernel_rfl)
            rw [eval_tmp] at e299
            clear bx5_0 bx5_1 bx5_2 bx5_3 bx5_4 bG_0 bG_1
            clear hd ho
            replace hK := Lib.hid hK
            go_simp
            exact hK.out _ _ rfl (Ext.refl _)
          · intro a w hE hd ho
            refine .inl ⟨rfl, ?_⟩
            intro K hK
            have hF : Ext w27b w := hE
            have e300 : a.eval (.tmp 300) = .bool true := hd 93 (by kernel_rfl)
            rw [eval_tmp] at e300
            clear bx5_0 bx5_1 bx5_2 bx5_3 bx5_4 bG_0 bG_1
            clear hd ho
            replace hK := Lib.hid hK
            go_simp
            exact hK.out _ _ rfl (Ext.refl _)
          · intro a w hE hd ho
            refine .inl ⟨wanted_by 301 rfl rfl (hd 94 (by kernel_rfl)), ?_⟩
            intro K hK
            have hF : Ext w27b w := hE
            have e51 : a.eval (.tmp 51) = .slice ahs 2 chs := ho 51 (by kernel_rfl)
            rw [eval_tmp] at e51
            clear bx5_0 bx5_1 bx5_2 bx5_3 bx5_4 bG_0 bG_1
            clear hd ho
            replace hK := Lib.hid hK
            go_simp
            exact hK.out _ _ rfl (Ext.refl _)
          · intro a w hE hd ho
            refine .inl ⟨wanted_by 301 rfl rfl (hd 94 (by kernel_rfl)), ?_⟩
            intro K hK
            have hF : Ext w27b w := hE
            clear bx5_0 bx5_1 bx5_2 bx5_3 bx5_4 bG_0 bG_1
            clear hd ho
            replace hK := Lib.hid hK
            go_simp
            refine (law27_num 1 _).mono ?_
            rintro e wz ⟨rfl, hZ⟩
            dsimp only [Cell.val]
            go_simp
            exact hK.out _ _ rfl hZ
          · intro a w hE hd ho
            refine .inl ⟨wanted_by 301 rfl rfl (hd 94 (by kernel_rfl)), ?_⟩
            intro K hK
            have hF : Ext w27b w := hE
            clear bx5_0 bx5_1 bx5_2 bx5_3 bx5_4 bG_0 bG_1
            clear hd ho
            replace hK := Lib.hid hK
            go_simp
            refine (law27_num 2 _).mono ?_
            rintro e wz ⟨rfl, hZ⟩
            dsimp only [Cell.val]
            go_simp
            exact hK.out _ _ rfl hZ
          · intro a w hE hd ho
            refine .inl ⟨wanted_by 301 rfl rfl (hd 94 (by kernel_rfl)), ?_⟩
            intro K hK
            have hF : Ext w27b w := hE
            have e303 : a.eval (.tmp 303) = .agg #[.int .u8 1, .int .i64 1, .int .i64 0, .int .i64 0, .int .i64 0] := hd 96 (by kernel_rfl)
            rw [eval_tmp] at e303
            have e304 : a.eval (.tmp 304) = .agg #[.int .u8 1, .int .i64 2, .int .i64 0, .int .i64 0, .int .i64 0] := hd 97 (by kernel_rfl)
            rw [eval_tmp] at e304
            clear bx5_0 bx5_1 bx5_2 bx5_3 bx5_4 bG_0 bG_1
            clear hd ho
            replace hK := Lib.hid hK
            go_simp
            exact hK.out _ _ (Cls.lit w _ [⟨1, 1, 0, 0, 0⟩, ⟨1, 2, 0, 0, 0⟩] _ _ rfl rfl (by simp [maxLen]) rfl) ((Ext.refl _).alloc _)
          · intro a w hE hd ho
            refine .inl ⟨wanted_by 301 rfl rfl (hd 94 (by kernel_rfl)), ?_⟩
            intro K hK
            have hF : Ext w27b w := hE
            have e302 : a.eval (.tmp 302) = .slice ahs 2 chs := hd 95 (by kernel_rfl)
            rw [eval_tmp] at e302
            have h305 : Cls w (a.eval (.tmp 305)) [⟨1, 1, 0, 0, 0⟩, ⟨1, 2, 0, 0, 0⟩] := hd 98 (by kernel_rfl)
            obtain ⟨xa305, xc305, e305, -⟩ := Cls.form h305
            rw [e305] at h305
            rw [eval_tmp] at e305
            clear bx5_0 bx5_1 bx5_2 bx5_3 bx5_4 bG_0 bG_1
            clear hd ho
            replace hK := Lib.hid hK
            go_simp
            refine (ref27_SameCells_yes (l := [⟨1, 1, 0, 0, 0⟩, ⟨1, 2, 0, 0, 0⟩]) (hs.ext hF) h305).mono ?_
            rintro e wz ⟨rfl, hZ⟩
            go_simp
            exact hK.out _ _ rfl hZ
          · intro a w hE hd ho
            refine .inl ⟨rfl, ?_⟩
            intro K hK
            have hF : Ext w27b w := hE
            have e301 : a.eval (.tmp 301) = .bool true := hd 94 (by kernel_rfl)
            rw [eval_tmp] at e301
            have e306 : a.eval (.tmp 306) = .bool true := hd 99 (by kernel_rfl)
            rw [eval_tmp] at e306
            clear bx5_0 bx5_1 bx5_2 bx5_3 bx5_4 bG_0 bG_1
            clear hd ho
            replace hK := Lib.hid hK
            go_simp
            exact hK.out _ _ rfl (Ext.refl _)
          · intro a w hE hd ho
            refine .inl ⟨rfl, ?_⟩
            intro K hK
            have hF : Ext w27b w := hE
            have e307 : a.eval (.tmp 307) = .bool true := hd 100 (by kernel_rfl)
            rw [eval_tmp] at e307
            clear bx5_0 bx5_1 bx5_2 bx5_3 bx5_4 bG_0 bG_1
            clear hd ho
            replace hK := Lib.hid hK
            go_simp
            exact hK.out _ _ rfl (Ext.refl _)
          · intro a w hE hd ho
            refine .inl ⟨wanted_by 308 rfl rfl (hd 101 (by kernel_rfl)), ?_⟩
            intro K hK
            have hF : Ext w27b w := hE
            have e55 : a.eval (.tmp 55) = .int .u8 0 := ho 55 (by kernel_rfl)
            rw [eval_tmp] at e55
            clear bx5_0 bx5_1 bx5_2 bx5_3 bx5_4 bG_0 bG_1
            clear hd ho
            replace hK := Lib.hid hK
            go_simp
            exact hK.out _ _ rfl (Ext.refl _)
          · intro a w hE hd ho
            refine .inl ⟨wanted_by 308 rfl rfl (hd 101 (by kernel_rfl)), ?_⟩
            intro K hK
            have hF : Ext w27b w := hE
            have e309 : a.eval (.tmp 309) = .int .u8 0 := hd 102 (by kernel_rfl)
            rw [eval_tmp] at e309
            clear bx5_0 bx5_1 bx5_2 bx5_3 bx5_4 bG_0 bG_1
            clear hd ho
            replace hK := Lib.hid hK
            go_simp
            exact hK.out _ _ rfl (Ext.refl _)
          · intro a w hE hd ho
            refine .inl ⟨rfl, ?_⟩
            intro K hK
            have hF : Ext w27b w := hE
            have e308 : a.eval (.tmp 308) = .bool true := hd 101 (by kernel_rfl)
            rw [eval_tmp] at e308
            have e310 : a.eval (.tmp 310) = .bool true := hd 103 (by kernel_rfl)
            rw [eval_tmp] at e310
            clear bx5_0 bx5_1 bx5_2 bx5_3 bx5_4 bG_0 bG_1
            clear hd ho
            replace hK := Lib.hid hK
            go_simp
            exact hK.out _ _ rfl (Ext.refl _)
          · intro a w hE hd ho
            refine .inl ⟨rfl, ?_⟩
            intro K hK
            have hF : Ext w27b w := hE
            have e311 : a.eval (.tmp 311) = .bool true := hd 104 (by kernel_rfl)
            rw [eval_tmp] at e311
            clear bx5_0 bx5_1 bx5_2 bx5_3 bx5_4 bG_0 bG_1
            clear hd ho
            replace hK := Lib.hid hK
            go_simp
            exact hK.out _ _ rfl (Ext.refl _)
          · intro a w hE hd ho
            refine .inl ⟨wanted_by 312 rfl rfl (hd 105 (by kernel_rfl)), ?_⟩
            intro K hK
            have hF : Ext w27b w := hE
            have e56 : a.eval (.tmp 56) = .int .i64 0 := ho 56 (by kernel_rfl)
            rw [eval_tmp] at e56
            clear bx5_0 bx5_1 bx5_2 bx5_3 bx5_4 bG_0 bG_1
            clear hd ho
            replace hK := Lib.hid hK
            go_simp
            exact hK.out _ _ rfl (Ext.refl _)
          · intro a w hE hd ho
            refine .inl ⟨wanted_by 312 rfl rfl (hd 105 (by kernel_rfl)), ?_⟩
            intro K hK
            have hF : Ext w27b w := hE
            have e313 : a.eval (.tmp 313) = .int .i64 0 := hd 106 (by kernel_rfl)
            rw [eval_tmp] at e313
            clear bx5_0 bx5_1 bx5_2 bx5_3 bx5_4 bG_0 bG_1
            clear hd ho
            replace hK := Lib.hid hK
            go_simp
            exact hK.out _ _ rfl (Ext.refl _)
          · intro a w hE hd ho
            refine .inl ⟨rfl, ?_⟩
            intro K hK
            have hF : Ext w27b w := hE
            have e312 : a.eval (.tmp 312) = .bool true := hd 105 (by kernel_rfl)
            rw [eval_tmp] at e312
            have e314 : a.eval (.tmp 314) = .bool true := hd 107 (by kernel_rfl)
            rw [eval_tmp] at e314
            clear bx5_0 bx5_1 bx5_2 bx5_3 bx5_4 bG_0 bG_1
            clear hd ho
            replace hK := Lib.hid hK
            go_simp
            exact hK.out _ _ rfl (Ext.refl _)
          · intro a w hE hd ho
            refine .inl ⟨rfl, ?_⟩
            intro K hK
            have hF : Ext w27b w := hE
            have e315 : a.eval (.tmp 315) = .bool true := hd 108 (by kernel_rfl)
            rw [eval_tmp] at e315
            clear bx5_0 bx5_1 bx5_2 bx5_3 bx5_4 bG_0 bG_1
            clear hd ho
            replace hK := Lib.hid hK
            go_simp
            exact hK.out _ _ rfl (Ext.refl _)
          · intro a w hE hd ho
            refine .inl ⟨wanted_by 316 rfl rfl (hd 109 (by kernel_rfl)), ?_⟩
            intro K hK
            have hF : Ext w27b w := hE
            have e54 : a.eval (.tmp 54) = .pointer (some ⟨w25.heap.size, 0, none⟩) := ho 54 (by kernel_rfl)
            rw [eval_tmp] at e54
            have bG_0w := Ext.cell hF bG_0
            have bG_1w := Ext.cell hF bG_1
            clear bx5_0 bx5_1 bx5_2 bx5_3 bx5_4 bG_0 bG_1
            clear hd ho
            replace hK := Lib.hid hK
            go_simp
            exact hK.out _ _ rfl (Ext.refl _)
          · intro a w hE hd ho
            refine .inl ⟨wanted_by 316 rfl rfl (hd 109 (by kernel_rfl)), ?_⟩
            intro K hK
            have hF : Ext w27b w := hE
            clear bx5_0 bx5_1 bx5_2 bx5_3 bx5_4 bG_0 bG_1
            clear hd ho
            replace hK := Lib.hid hK
            go_simp
            exact hK.out _ _ rfl (Ext.refl _)
          · intro a w hE hd ho
            refine .inl ⟨wanted_by 316 rfl rfl (hd 109 (by kernel_rfl)), ?_⟩
            intro K hK
            have hF : Ext w27b w := hE
            have e317 : a.eval (.tmp 317) = .agg #[.slice shg again27.al.length chg, .int .i64 again27.next] := hd 110 (by kernel_rfl)
            rw [eval_tmp] at e317
            have e318 : a.eval (.tmp 318) = .agg #[.int .u8 0, .int .i64 0, .int .i64 0, .int .i64 0, .int .i64 0] := hd 111 (by kernel_rfl)
            rw [eval_tmp] at e318
            clear bx5_0 bx5_1 bx5_2 bx5_3 bx5_4 bG_0 bG_1
            clear hd ho
            replace hK := Lib.hid hK
            go_simp
            refine (law27_loads (m := again27) 1 ⟨0, 0, 0, 0, 0⟩ 4 (hg.ext hF) (by unfold i64B; decide) cn27_t).mono ?_
            rintro e wz ⟨rfl, hZ⟩
            go_simp
            exact hK.out _ _ rfl hZ
          · intro a w hE hd ho
            refine .inl ⟨rfl, ?_⟩
            intro K hK
            have hF : Ext w27b w := hE
            have e316 : a.eval (.tmp 316) = .bool true := hd 109 (by kernel_rfl)
            rw [eval_tmp] at e316
            have e319 : a.eval (.tmp 319) = .bool true := hd 112 (by kernel_rfl)
            rw [eval_tmp] at e319
            clear bx5_0 bx5_1 bx5_2 bx5_3 bx5_4 bG_0 bG_1
            clear hd ho
            replace hK := Lib.hid hK
            go_simp
            exact hK.out _ _ rfl (Ext.refl _)
          · intro a w hE hd ho
            refine .inl ⟨rfl, ?_⟩
            intro K hK
            have hF : Ext w27b w := hE
            have e320 : a.eval (.tmp 320) = .bool true := hd 113 (by kernel_rfl)
            rw [eval_tmp] at e320
            clear bx5_0 bx5_1 bx5_2 bx5_3 bx5_4 bG_0 bG_1
            clear hd ho
            replace hK := Lib.hid hK
            go_simp
            exact hK.out _ _ rfl (Ext.refl _)
          · intro a w hE hd ho
            refine .inl ⟨wanted_by 321 rfl rfl (hd 114 (by kernel_rfl)), ?_⟩
            intro K hK
            have hF : Ext w27b w := hE
            have e59 : a.eval (.tmp 59) = .int .i64 6 := ho 59 (by kernel_rfl)
            rw [eval_tmp] at e59
            clear bx5_0 bx5_1 bx5_2 bx5_3 bx5_4 bG_0 bG_1
            clear hd ho
            replace hK := Lib.hid hK
            go_simp
            exact hK.out _ _ rfl (Ext.refl _)
          · intro a w hE hd ho
            refine .inl ⟨wanted_by 321 rfl rfl (hd 114 (by kernel_rfl)), ?_⟩
            intro K hK
            have hF : Ext w27b w := hE
            have e322 : a.eval (.tmp 322) = .int .i64 6 := hd 115 (by kernel_rfl)
            rw [eval_tmp] at e322
            clear bx5_0 bx5_1 bx5_2 bx5_3 bx5_4 bG_0 bG_1
            clear hd ho
            replace hK := Lib.hid hK
            go_simp
            exact hK.out _ _ rfl (Ext.refl _)
          · intro a w hE hd ho
            refine .inl ⟨rfl, ?_⟩
            intro K hK
            have hF : Ext w27b w := hE
            have e321 : a.eval (.tmp 321) = .bool true := hd 114 (by kernel_rfl)
            rw [eval_tmp] at e321
            have e323 : a.eval (.tmp 323) = .bool true := hd 116 (by kernel_rfl)
            rw [eval_tmp] at e323
            clear bx5_0 bx5_1 bx5_2 bx5_3 bx5_4 bG_0 bG_1
            clear hd ho
            replace hK := Lib.hid hK
            go_simp
            exact hK.out _ _ rfl (Ext.refl _)
          · intro a w hE hd ho
            refine .inl ⟨rfl, ?_⟩
            intro K hK
            have hF : Ext w27b w := hE
            have e324 : a.eval (.tmp 324) = .bool true := hd 117 (by kernel_rfl)
            rw [eval_tmp] at e324
            clear bx5_0 bx5_1 bx5_2 bx5_3 bx5_4 bG_0 bG_1
            clear hd ho
            replace hK := Lib.hid hK
            go_simp
            exact hK.out _ _ rfl (Ext.refl _)
        · intro vals w hE hv
          have hF : Ext w27b w := hE
          have ee : vals 118 = .bool true := hv 118 (by decide)
          clear hv hE
          try dsimp only [List.append]
          simp only [putAll]
          go_simp
          try rw [ee]
          go_wp2
          go_ret
          exact ⟨rfl, Ext.trans (hF27) hF⟩
set_option maxRecDepth 100000 in
theorem cellsNames_lifted (os : Os) (started : os.Started) (H : Type) (enc : TypeId × Value → H) :
    ReturnsInHanded {} Try.checked os 3 .any (Rows.cellsNamesSpec.pre6 enc Try.prog Try.f3 Rows.cellsNamesRow.domain false) (Rows.cellsNamesSpec.post enc Try.prog Try.f3 false true false false) := by
  refine returnsInHanded_of_change (C := Try.checked) Tryown started (by kernel_rfl) Try.func3
    (ChangeSpec.witness6 (enc := enc) (C := Try.checked) false ⟨#[], #[], []⟩ 8 (by kernel_rfl) (by kernel_rfl) (by kernel_rfl) (by kernel_rfl)) ?_
  intro W base args ds gs before hval0 hW _ _
  have hval : ∀ (j : Nat) t v, Try.f3.params[j]? = some t → args[j]? = some v → Value.okWide Try.prog W .any base t v := hval0
  have hW' := hW
  obtain ⟨p, q, hA0, hV, rfl, hfz, hnd⟩ := hW
  have hA : DataW.TrodAll enc Try.prog W 0 (fun _ => true) true Try.f3.params.toList args.toList ds p := hA0
  rw [Try.params3] at hA hval
  obtain ⟨hargs, rfl, rfl⟩ := trodAll_nil hA
  obtain rfl : args = #[] := by cases args; simp_all
  refine (cellsNames_walk).mono fun e W' ⟨he, hb⟩ => ?_
  subst he
  exact ⟨_, rfl, post_law TrylaidOut (tb := 4) rfl Try.underlying4 (by kernel_rfl) rfl (fun ds hd => match ds, hd with | [], _ => rfl) hW' hb⟩

theorem cellsNames_holds : Rows.CellsNamesSaid :=
  OpenClaim.holds_of_wide 3 Try.f3 rfl rfl rfl rfl rfl rfl rfl ⟨rfl, rfl, rfl, rfl, rfl⟩ rfl rfl rfl rfl rfl (by kernel_rfl) Try.func3 (by kernel_rfl)
    (of_decide_eq_true (by kernel_rfl)) (by unfold Func.isWrapper; first | (rw [if_pos (by decide +kernel)]; kernel_rfl) | (rw [if_neg (by decide +kernel)]; exact ⟨rfl, rfl⟩))
    (fun os started H enc _ => cellsNames_lifted os started H enc)

end Go.Proofs.Ytiikdpfbbcnplaa
