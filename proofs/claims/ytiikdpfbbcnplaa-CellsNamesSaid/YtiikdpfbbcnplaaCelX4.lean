/- Contracts: LoadAll of the reference of layer 27; Load of both; SameCells. (printed by gen/cells27.py) -/
import Derived.Test.YtiikdpfbbcnplaaCelX3
namespace Go.Proofs.Ytiikdpfbbcnplaa
set_option maxRecDepth 100000
open Go.RowKit


/-- A cell, a reason, an error. -/
def RetCW (w : World) (c : Cell) (why err : Int) (en : Ending) (w' : World) : Prop := en = .returned (.tuple #[c.val, .int .u8 why, .int .i64 err]) ∧ Ext w w'

set_option maxRecDepth 100000 in
set_option maxHeartbeats 1600000 in
theorem cells_Load {m : Mem} {s : Value} {w : World} (p : Ptr) (hl : Als w s m.al) (hn : i64B m.next) :
    Calls Try.prog 6 #[.agg #[s, .int .i64 m.next], p.val] w (RetCW w (load1R m p).1 (load1R m p).2.1 (load1R m p).2.2) := by
  have hE0 := (((Ext.refl w).alloc (.cells #[s, .int .i64 m.next] 24)).alloc (.cells #[.int .i64 p.a, .int .i64 p.o, .int .i64 p.t] 27)).alloc (.cells #[.int .u8 0, .int .i64 0, .int .i64 0, .int .i64 0, .int .i64 0] 29)
  have hC := Lib.hid (cells_LoadAll p 1 (hl.ext hE0) hn)
  obtain ⟨a, cp, rfl, -⟩ := hl.form
  have bR := Box.new ((w.alloc (.cells #[.slice a m.al.length cp, .int .i64 m.next] 24)).alloc (.cells #[.int .i64 p.a, .int .i64 p.o, .int .i64 p.t] 27)) 29 #[.int .u8 0, .int .i64 0, .int .i64 0, .int .i64 0, .int .i64 0]
  simp only [World.size_alloc] at bR
  obtain ⟨L, why, err, hld⟩ : ∃ L why err, loadR m p 1 = (L, why, err) := ⟨_, _, _, rfl⟩
  rw [hld] at hC
  dsimp only at hC
  by_cases hL0 : L = []
  · subst hL0
    have hres : Hid (load1R m p = (Cell.zero, why, err)) := Hid.mk (by rw [load1R, hld]; rfl)
    clear hld hl
    unfold Ptr.val at *
    go_enter Try.func6, Try.ntmps6
    go_wp2_with fail
    refine hC.out.mono ?_
    rintro e w1 ⟨v, rfl, hO, hE1⟩
    obtain ⟨va, vc, rfl, -⟩ := hO.sl.slice_form
    have hF := hE0.trans hE1
    have bR1 := bR.ext hE1
    have r0 : w1.cell? ⟨w.heap.size + 1 + 1, 0, none⟩ = some (.int .u8 0) := bR1.cell 0
    have r1 : w1.cell? ⟨w.heap.size + 1 + 1, 1, none⟩ = some (.int .i64 0) := bR1.cell 1
    have r2 : w1.cell? ⟨w.heap.size + 1 + 1, 2, none⟩ = some (.int .i64 0) := bR1.cell 2
    have r3 : w1.cell? ⟨w.heap.size + 1 + 1, 3, none⟩ = some (.int .i64 0) := bR1.cell 3
    have r4 : w1.cell? ⟨w.heap.size + 1 + 1, 4, none⟩ = some (.int .i64 0) := bR1.cell 4
    have f0 := bR1.frozen 0
    have f1 := bR1.frozen 1
    have f2 := bR1.frozen 2
    have f3 := bR1.frozen 3
    have f4 := bR1.frozen 4
    clear bR bR1 hO
    dsimp only [List.length_nil]
    go_wp2
    rw [hres.out]
    refine bodyPost_ret (v := .tuple #[.agg #[.int .u8 0, .int .i64 0, .int .i64 0, .int .i64 0, .int .i64 0], .int .u8 why, .int .i64 err]) (by simp [results, Try.f6, go_sem, r0, r1, r2, r3, r4]) rfl ⟨rfl, ?_⟩
    exact ((((hF.setCell (by simp; omega) _).setCell (by simp; omega) _).setCell (by simp; omega) _).setCell (by simp; omega) _).setCell (by simp; omega) _
  · obtain ⟨c, hc⟩ : ∃ c, L[0]? = some c := ⟨L[0]'(List.length_pos_iff.2 hL0), by simp⟩
    have hres : Hid (load1R m p = (c, why, err)) := Hid.mk (by rw [load1R, hld]; cases L with | nil => exact absurd rfl hL0 | cons y L => simp at hc; subst hc; rfl)
    have hpos : 0 < L.length := List.length_pos_iff.2 hL0
    have q : ((L.length : Int) == 0) = false := beq_eq_false_iff_ne.2 (by omega)
    have hi1 : (0 : Int) < (L.length : Int) := by omega
    have hc := Lib.hid hc
    clear hld hl hL0
    unfold Ptr.val at *
    go_enter Try.func6, Try.ntmps6
    go_wp2_with fail
    refine hC.out.mono ?_
    rintro e w1 ⟨v, rfl, hO, hE1⟩
    have hCl : Cls w1 v L := hO.sl
    obtain ⟨va, vc, rfl, -⟩ := hCl.form
    obtain ⟨g, off, rfl, hg, c0, c1, c2, c3, c4⟩ := hCl.cell hc.out
    simp only [Nat.zero_mul, Nat.add_zero] at c0 c1 c2 c3 c4
    have hgo := (hO.lt (g := g) rfl).1
    have hF := hE0.trans hE1
    have bR1 := bR.ext hE1
    have r0 : w1.cell? ⟨w.heap.size + 1 + 1, 0, none⟩ = some (.int .u8 0) := bR1.cell 0
    have r1 : w1.cell? ⟨w.heap.size + 1 + 1, 1, none⟩ = some (.int .i64 0) := bR1.cell 1
    have r2 : w1.cell? ⟨w.heap.size + 1 + 1, 2, none⟩ = some (.int .i64 0) := bR1.cell 2
    have r3 : w1.cell? ⟨w.heap.size + 1 + 1, 3, none⟩ = some (.int .i64 0) := bR1.cell 3
    have r4 : w1.cell? ⟨w.heap.size + 1 + 1, 4, none⟩ = some (.int .i64 0) := bR1.cell 4
    have f0 := bR1.frozen 0
    have f1 := bR1.frozen 1
    have f2 := bR1.frozen 2
    have f3 := bR1.frozen 3
    have f4 := bR1.frozen 4
    clear bR bR1 hO hCl
    go_wp2
    rw [hres.out]
    refine bodyPost_ret (v := .tuple #[c.val, .int .u8 why, .int .i64 err]) (by simp [results, Try.f6, go_sem, r0, r1, r2, r3, r4, Cell.val]) rfl ⟨rfl, ?_⟩
    exact ((((hF.setCell (by simp; omega) _).setCell (by simp; omega) _).setCell (by simp; omega) _).setCell (by simp; omega) _).setCell (by simp; omega) _


theorem run_neq_cells (x y : Cell) (w : World) : (binOp .neq 29 x.val y.val).run Try.prog w = .ok (.bool (decide (x ≠ y))) w := by
  obtain ⟨k, n, a, o, t⟩ := x
  obtain ⟨k', n', a', o', t'⟩ := y
  unfold Cell.val
  go_simp
  by_cases h1 : k = k' <;> by_cases h2 : n = n' <;> by_cases h3 : a = a' <;> by_cases h4 : o = o' <;> by_cases h5 : t = t' <;> simp [h1, h2, h3, h4, h5]

set_option maxHeartbeats 1600000 in
theorem ref27_SameCells {l m : List Cell} {v u : Value} {w : World} (hl : Cls w v l) (hm : Cls w u m) : Calls Try.prog 12 #[v, u] w fun e w' => e = .returned (.bool (decide (l = m))) ∧ Ext w w' := by
  obtain ⟨a, cp, rfl, hlc, hcm, -⟩ := hl.form
  obtain ⟨a2, cp2, rfl, hlc2, hcm2, -⟩ := hm.form
  unfold maxLen at hcm hcm2
  by_cases hlen : l.length = m.length
  · have hH := Lib.hid hlen
    have hm2 := hm
    rw [← hlen] at hm2
    rw [← hlen]
    clear hlen
    have hl' := Lib.hid hl
    have hm' := Lib.hid hm2
    clear hl hm hm2
    go_enter Try.func12, Try.ntmps12
    go_wp2
    go_loopw [5] (fun i wr => ∃ k : Nat, k ≤ l.length ∧ i = .int .i64 k ∧ Ext w wr ∧ Hid (l.take k = m.take k)) (fun i _ => l.length - (intOf i).toNat)
    case atStart => exact ⟨0, Nat.zero_le _, rfl, Ext.refl _, by simp [Hid]⟩
    case round =>
      obtain ⟨k, hk, rfl, hE, hN⟩ := hrel
      by_cases hlt : k < l.length
      · obtain ⟨x, hx⟩ : ∃ x, l[k]? = some x := ⟨l[k], by simp [hlt]⟩
        obtain ⟨y, hy⟩ : ∃ y, m[k]? = some y := ⟨m[k]'(by have := hH.out; omega), by simp⟩
        obtain ⟨b, off, rfl, hb, c0, c1, c2, c3, c4⟩ := (hl'.out.ext hE).cell hx
        obtain ⟨b', off', rfl, hb', d0, d1, d2, d3, d4⟩ := (hm'.out.ext hE).cell hy
        have hX := Lib.hid hx
        have hY := Lib.hid hy
        clear hx hy
        have hi0 : (0 : Int) ≤ (k : Int) := by omega
        have hi1 : (k : Int) < (l.length : Int) := by omega
        have hn := run_neq_cells x y
        unfold Cell.val at hn
        by_cases hxy : x = y
        · subst hxy
          simp only [ne_eq, not_true_eq_false, decide_false] at hn
          go_wp2
          go_quiet (fail)
          go_wp2
          go_roundw
          case rel => exact ⟨k + 1, by omega, by go_num, hE.drewN _, by show l.take (k + 1) = m.take (k + 1); rw [List.take_add_one, List.take_add_one, hX.out, hY.out, hN.out]⟩
          case measure => simp [intOf]; omega
        · have hD := Lib.hid hxy
          simp only [ne_eq, hxy, not_false_eq_true, decide_true] at hn
          clear hxy
          go_wp2
          go_quiet (fail)
          go_wp2
          go_ret
          refine ⟨?_, hE.drewN _⟩
          have hne : l ≠ m := by
            intro e
            have h1 := hX.out
            rw [e, hY.out] at h1
            exact hD.out (Option.some.inj h1).symm
          simp [hne]
      · have hkl : k = l.length := by omega
        subst hkl
        go_wp2
        go_ret
        have h1 := hN.out
        rw [List.take_length, hH.out, List.take_length] at h1
        exact ⟨by simp [h1], hE⟩
  · have hb : ((l.length : Int) == (m.length : Int)) = false := by simp; omega
    have hb' : ((l.length : Int) != (m.length : Int)) = true := by simp; omega
    have hH := Lib.hid hlen
    clear hlen hl hm
    go_enter Try.func12, Try.ntmps12
    go_wp2
    go_ret
    have hne : l ≠ m := fun e => hH.out (by rw [e])
    exact ⟨by simp [hne], Ext.refl _⟩
theorem ref27_SameCells_yes {l : List Cell} {v u : Value} {w : World} (hl : Cls w v l) (hm : Cls w u l) : Calls Try.prog 12 #[v, u] w fun e w' => e = .returned (.bool true) ∧ Ext w w' :=
  (ref27_SameCells hl hm).mono fun _ _ ⟨h1, h2⟩ => ⟨h1.trans (by simp), h2⟩

end Go.Proofs.Ytiikdpfbbcnplaa
