/- Layer 27's own functions num, two, loads. -/
import Derived.Test.YtiikdpfbbcnplaaCelX7
import Derived.Test.YtiikdpfbbcnplaaAlive26
namespace Go.Proofs.Ytiikdpfbbcnplaa
set_option maxRecDepth 100000
open Go.RowKit

theorem law27_num (n : Int) (w : World) : Calls Try.prog 10 #[.int .i64 n] w fun e w' => e = .returned (Cell.val ⟨1, n, 0, 0, 0⟩) ∧ Ext w w' := by
  have b := Box.new w 29 #[.int .u8 1, .int .i64 n, .int .i64 0, .int .i64 0, .int .i64 0]
  have c0 := b.cell 0
  have c1 := b.cell 1
  have c2 := b.cell 2
  have c3 := b.cell 3
  have c4 := b.cell 4
  go_enter Try.func10, Try.ntmps10
  go_wp2
  refine bodyPost_ret (v := Cell.val ⟨1, n, 0, 0, 0⟩) (by simp [results, Try.f10, go_sem, c0, c1, c2, c3, c4, Cell.val]) rfl ⟨rfl, (Ext.refl _).alloc _⟩

theorem law27_two (w : World) : Calls Try.prog 5 #[] w fun e w' => (∃ s, e = .returned (.agg #[s, .int .i64 1]) ∧ Als w' s [newAlloc 0 2]) ∧ Ext w w' := by
  have hmk : ∀ W : World, (Instr.makeSlice 35 (.int .i64 2) (.int .i64 2)).run Try.prog W = .ok (.slice (some ⟨W.heap.size, 0, none⟩) 2 2) (W.alloc (.cells (zcells 2) 29)) := make_Cells 2 (by decide)
  go_enter Try.func5, Try.ntmps5
  go_wp2
  have b := ((Box.new w 24 #[.slice (some ⟨w.heap.size + 1 + 1, 0, none⟩) 1 1, .int .i64 1]).ext ((Ext.refl _).alloc (.cells (zcells 2) 29))).ext ((Ext.refl _).alloc (.cells #[.int .i64 0, .bool true, .slice (some ⟨w.heap.size + 1, 0, none⟩) 2 2] 70))
  have c0 := b.cell 0
  have c1 := b.cell 1
  have hi := (zcells_own 2 (by decide) (w.alloc (.cells #[.slice (some ⟨w.heap.size + 1 + 1, 0, none⟩) 1 1, .int .i64 1] 24)) (Nat.le_refl _)).sl.ext ((Ext.refl _).alloc (.cells #[.int .i64 0, .bool true, .slice (some ⟨w.heap.size + 1, 0, none⟩) 2 2] 70))
  have ho := (Own.lit' (B := 0) (e := 70) (k := 3) ((w.alloc (.cells #[.slice (some ⟨w.heap.size + 1 + 1, 0, none⟩) 1 1, .int .i64 1] 24)).alloc (.cells (zcells 2) 29)) #[.int .i64 0, .bool true, .slice (some ⟨w.heap.size + 1, 0, none⟩) 2 2] 1 (Nat.zero_le _) (by decide) rfl).sl
  rw [World.size_alloc] at hi ho
  rw [World.size_alloc] at ho
  refine bodyPost_ret (v := .agg #[.slice (some ⟨w.heap.size + 1 + 1, 0, none⟩) 1 1, .int .i64 1]) (by simp [results, Try.f5, go_sem, c0, c1]) rfl ⟨⟨_, rfl, [.slice (some ⟨w.heap.size + 1, 0, none⟩) 2 2], ⟨hi, trivial⟩, ho⟩, (((Ext.refl _).alloc _).alloc _).alloc _⟩

set_option maxHeartbeats 3200000 in
theorem law27_loads {m : Mem} {s : Value} {w : World} (off : Int) (want : Cell) (why : Int) (hl : Als w s m.al) (hn : i64B m.next) (h : load1R m ⟨0, off, 0⟩ = (want, why, 0)) :
    Calls Try.prog 13 #[.agg #[s, .int .i64 m.next], .int .i64 off, want.val, .int .u8 why] w fun e w' => e = .returned (.bool true) ∧ Ext w w' := by
  obtain ⟨k, n, a, o, t⟩ := want
  have hF := ((Ext.refl w).alloc (.cells #[s, .int .i64 m.next] 24)).alloc (.cells #[.int .u8 k, .int .i64 n, .int .i64 a, .int .i64 o, .int .i64 t] 29)
  have hL := hl.ext hF
  obtain ⟨sa, sc, rfl, -⟩ := hl.form
  have bM := (Box.new w 24 #[.slice sa m.al.length sc, .int .i64 m.next]).ext ((Ext.refl _).alloc (.cells #[.int .u8 k, .int .i64 n, .int .i64 a, .int .i64 o, .int .i64 t] 29))
  have hB := Box.new (w.alloc (.cells #[.slice sa m.al.length sc, .int .i64 m.next] 24)) 29 #[.int .u8 k, .int .i64 n, .int .i64 a, .int .i64 o, .int .i64 t]
  rw [World.size_alloc] at hB
  have c0 := bM.cell 0
  have c1 := bM.cell 1
  have hrun := run_eql_cells ⟨k, n, a, o, t⟩ ⟨k, n, a, o, t⟩
  simp only [Cell.val, decide_true] at hrun
  unfold Cell.val
  go_enter Try.func13, Try.ntmps13
  go_wp2_with fail
  refine (cells_Load ⟨0, off, 0⟩ hL hn).mono ?_
  rintro e w1 ⟨rfl, hE⟩
  rw [h]
  unfold Cell.val
  have h0 := (hB.ext hE).cell 0
  have h1 := (hB.ext hE).cell 1
  have h2 := (hB.ext hE).cell 2
  have h3 := (hB.ext hE).cell 3
  have h4 := (hB.ext hE).cell 4
  have hlt := (hB.ext hE).lt
  go_wp2
  go_ret
  exact ⟨rfl, (hF.trans hE).alloc _⟩
end Go.Proofs.Ytiikdpfbbcnplaa
