/- Contracts: Get of the program and of the reference. -/
import Derived.Test.YtcndhbkbbmgeeaaCelW8
namespace Go.Proofs.Ytcndhbkbbmgeeaa
set_option maxRecDepth 100000
open Go.RowKit

/-- An allocation and an error. -/
def RetAE (w : World) (a : Alloc) (err : Int) (en : Ending) (w' : World) : Prop := ∃ s, en = .returned (.tuple #[.agg #[.int .i64 a.num, .bool a.live, s], .int .i64 err]) ∧ Cls w' s a.cells ∧ Ext w w'
theorem getR_bad {m : Mem} {n : Int} (h : m.ok = false) : getR m n = (Alloc.zero, 8) := by simp [getR, h]
theorem getR_none {m : Mem} {n : Int} (h : m.ok = true) (ha : atNum m.al n = none) : getR m n = (Alloc.zero, 6) := by simp [getR, h, ha]
theorem getR_some {m : Mem} {n : Int} {i : Nat} {x : Alloc} (h : m.ok = true) (ha : atNum m.al n = some i) (hx : m.al[i]? = some x) : getR m n = (x, 0) := by
  simp [getR, h, ha, List.getD_eq_getElem?_getD, hx]
theorem endR_bad {m : Mem} {n : Int} (h : m.ok = false) : endR m n = (Mem.zero, 8) := by simp [endR, h]
theorem endR_none {m : Mem} {n : Int} (h : m.ok = true) (ha : atNum m.al n = none) : endR m n = (Mem.zero, 6) := by simp [endR, h, ha]
theorem endR_dead {m : Mem} {n : Int} {i : Nat} {x : Alloc} (h : m.ok = true) (ha : atNum m.al n = some i) (hx : m.al[i]? = some x) (hl : x.live = false) : endR m n = (Mem.zero, 6) := by
  simp [endR, h, ha, List.getD_eq_getElem?_getD, hx, hl]
theorem endR_live {m : Mem} {n : Int} {i : Nat} {x : Alloc} (h : m.ok = true) (ha : atNum m.al n = some i) (hx : m.al[i]? = some x) (hl : x.live = true) : endR m n = (⟨m.al.set i (ended x), m.next⟩, 0) := by
  simp [endR, h, ha, List.getD_eq_getElem?_getD, hx, hl, endAt]
theorem idxM_none {l : List Alloc} {n : Int} (h : atNum l n = none) : idxM l n = -1 := by rw [idxM, h]; rfl
theorem idxM_some {l : List Alloc} {n : Int} {i : Nat} (h : atNum l n = some i) : idxM l n = (i : Int) := by rw [idxM, h]; rfl

theorem run_field_mem (x : Option Addr) (n c : Nat) (v : Value) (W : World) : (Instr.field 52 (.agg #[.slice x n c, v]) 0).run Try.prog W = .ok (.slice x n c) W := by
  simp [Instr.field, run_underlying Try.underlying52, run_underlying Try.underlying50, asAgg, part, isAgg]
set_option maxHeartbeats 1600000 in
theorem allocs_Get {m : Mem} {s : Value} {w : World} (n : Int) (hl : Als w s m.al) (hn : i64B m.next) :
    Calls Try.prog 26 #[.agg #[s, .int .i64 m.next], .int .i64 n] w (RetAE w (getR m n).1 (getR m n).2) := by
  have hE0 := ((Ext.refl w).alloc (.cells #[s, .int .i64 m.next] 52)).alloc (.cells #[.int .i64 0, .bool false, .slice none 0 0] 55)
  obtain ⟨a, cp, rfl, hlc, hcm, -⟩ := hl.form
  unfold maxLen at hcm
  have bM := (Box.new w 52 #[.slice a m.al.length cp, .int .i64 m.next]).ext ((Ext.refl _).alloc (.cells #[.int .i64 0, .bool false, .slice none 0 0] 55))
  have bR := Box.new (w.alloc (.cells #[.slice a m.al.length cp, .int .i64 m.next] 52)) 55 #[.int .i64 0, .bool false, .slice none 0 0]
  rw [World.size_alloc] at bR
  have hCk := Lib.hid (allocs_Check (hl.ext hE0) hn)
  have hL := Lib.hid hl
  cases hok : m.ok
  · have hce : Hid (memErr m.al m.next = 8) := Hid.mk (memErr_bad hok)
    have hres := Lib.hid (getR_bad (n := n) hok)
    clear hok hl
    go_enter Try.func26, Try.ntmps26
    go_wp2_with fail
    refine hCk.out.mono ?_
    rintro e w1 ⟨rfl, hE1⟩
    rw [hce.out]
    have bR1 := bR.ext hE1
    have r0 : w1.cell? ⟨w.heap.size + 1, 0, none⟩ = some (.int .i64 0) := bR1.cell 0
    have r1 : w1.cell? ⟨w.heap.size + 1, 1, none⟩ = some (.bool false) := bR1.cell 1
    have r2 : w1.cell? ⟨w.heap.size + 1, 2, none⟩ = some (.slice none 0 0) := bR1.cell 2
    have rf0 := bR1.frozen 0
    have rf1 := bR1.frozen 1
    have rf2 := bR1.frozen 2
    have hF1 := hE0.trans hE1
    clear bM bR bR1
    go_wp2
    rw [hres.out]
    refine bodyPost_ret (v := .tuple #[.agg #[.int .i64 0, .bool false, .slice none 0 0], .int .i64 8]) (by simp [results, Try.f26, go_sem, r0, r1, r2]) rfl ⟨_, rfl, Cls.nil _, ((hF1.setCell (by simp) _).setCell (by simp) _).setCell (by simp) _⟩
  · have hce : Hid (memErr m.al m.next = 0) := Hid.mk (memErr_ok hok)
    have hsm := small_of_ok hok
    cases hat : atNum m.al n with
    | none =>
      have hix := Lib.hid (idxM_none hat)
      have hres := Lib.hid (getR_none hok hat)
      clear hok hl hat
      go_enter Try.func26, Try.ntmps26
      go_wp2_with fail
      refine hCk.out.mono ?_
      rintro e w1 ⟨rfl, hE1⟩
      rw [hce.out]
      have hF1 := hE0.trans hE1
      have bM1 := bM.ext hE1
      have m0 : w1.cell? ⟨w.heap.size, 0, none⟩ = some (.slice a m.al.length cp) := bM1.cell 0
      have m1 : w1.cell? ⟨w.heap.size, 1, none⟩ = some (.int .i64 m.next) := bM1.cell 1
      go_wp2_with fail
      refine (allocs_find n (hL.out.ext hF1)).mono ?_
      rintro e w2 ⟨rfl, hE2⟩
      rw [hix.out]
      have hF2 := hF1.trans hE2
      have bR2 := (bR.ext hE1).ext hE2
      have r0 : w2.cell? ⟨w.heap.size + 1, 0, none⟩ = some (.int .i64 0) := bR2.cell 0
      have r1 : w2.cell? ⟨w.heap.size + 1, 1, none⟩ = some (.bool false) := bR2.cell 1
      have r2 : w2.cell? ⟨w.heap.size + 1, 2, none⟩ = some (.slice none 0 0) := bR2.cell 2
      have rf0 := bR2.frozen 0
      have rf1 := bR2.frozen 1
      have rf2 := bR2.frozen 2
      clear bM bR bR2 bM1 m0 m1
      go_wp2
      rw [hres.out]
      refine bodyPost_ret (v := .tuple #[.agg #[.int .i64 0, .bool false, .slice none 0 0], .int .i64 6]) (by simp [results, Try.f26, go_sem, r0, r1, r2]) rfl ⟨_, rfl, Cls.nil _, ((hF2.setCell (by simp) _).setCell (by simp) _).setCell (by simp) _⟩
    | some i =>
      have hil := (atNum_lt hat).1
      obtain ⟨x, hx⟩ : ∃ x, m.al[i]? = some x := ⟨m.al[i], by simp [hil]⟩
      have hix := Lib.hid (idxM_some hat)
      have hres := Lib.hid (getR_some hok hat hx)
      have hX := Lib.hid hx
      have hi2 : decide ((i : Int) < 0) = false := decide_eq_false (by omega)
      have hi0 : (0 : Int) ≤ (i : Int) := by omega
      have hi1 : (i : Int) < (m.al.length : Int) := by omega
      clear hok hl hat hx
      go_enter Try.func26, Try.ntmps26
      go_wp2_with fail
      refine hCk.out.mono ?_
      rintro e w1 ⟨rfl, hE1⟩
      rw [hce.out]
      have hF1 := hE0.trans hE1
      have bM1 := bM.ext hE1
      have m0 : w1.cell? ⟨w.heap.size, 0, none⟩ = some (.slice a m.al.length cp) := bM1.cell 0
      have m1 : w1.cell? ⟨w.heap.size, 1, none⟩ = some (.int .i64 m.next) := bM1.cell 1
      go_wp2_with fail
      refine (allocs_find n (hL.out.ext hF1)).mono ?_
      rintro e w2 ⟨rfl, hE2⟩
      rw [hix.out]
      have hF2 := hF1.trans hE2
      have bM2 := bM1.ext hE2
      clear m0 m1
      have m0 : w2.cell? ⟨w.heap.size, 0, none⟩ = some (.slice a m.al.length cp) := bM2.cell 0
      have m1 : w2.cell? ⟨w.heap.size, 1, none⟩ = some (.int .i64 m.next) := bM2.cell 1
      go_wp2_with fail
      refine (allocs_clone (hL.out.ext hF2) hsm).mono ?_
      rintro e w3 ⟨v, vs, rfl, hOM, hE3⟩
      have hF3 := hF2.trans hE3
      have hv := hOM.outer.sl.slice_form
      obtain ⟨a2, cp2, rfl, hlc2, hcm2, -⟩ := hv
      unfold maxLen at hcm2
      obtain ⟨g, sv, rfl, hg1, hg2, -, hown, ⟨d0, d1, d2⟩, -, hsb⟩ := OM.cell hOM hX.out
      obtain ⟨ca, ccp, rfl, -⟩ := hown.read.form
      have bR3 := ((bR.ext hE1).ext hE2).ext hE3
      have r0 : w3.cell? ⟨w.heap.size + 1, 0, none⟩ = some (.int .i64 0) := bR3.cell 0
      have r1 : w3.cell? ⟨w.heap.size + 1, 1, none⟩ = some (.bool false) := bR3.cell 1
      have r2 : w3.cell? ⟨w.heap.size + 1, 2, none⟩ = some (.slice none 0 0) := bR3.cell 2
      have rf0 := bR3.frozen 0
      have rf1 := bR3.frozen 1
      have rf2 := bR3.frozen 2
      have hsz := bR3.lt
      have hw2 : w.heap.size + 1 < w2.heap.size := ((bR.ext hE1).ext hE2).lt
      have hB := Lib.hid (And.intro hown (And.intro hsb hw2))
      have hfd := run_field_mem (some ⟨g, 0, none⟩) m.al.length cp2 (.int .i64 m.next)
      clear bM bR bM1 bM2 bR3 m0 m1 hOM hown hsb
      go_wp2
      rw [hres.out]
      have hX4 := (((ExtBut.setCell w3 ⟨w.heap.size + 1, 0, none⟩ (.int .i64 x.num)).mono (S' := fun b => b = w.heap.size + 1) (fun x _ h => h)).trans ((ExtBut.setCell _ ⟨w.heap.size + 1, 1, none⟩ (.bool x.live)).mono (S' := fun b => b = w.heap.size + 1) (fun x _ h => h))).trans ((ExtBut.setCell _ ⟨w.heap.size + 1, 2, none⟩ (.slice ca x.cells.length ccp)).mono (S' := fun b => b = w.heap.size + 1) (fun x _ h => h))
      refine bodyPost_ret (v := .tuple #[.agg #[.int .i64 x.num, .bool x.live, .slice ca x.cells.length ccp], .int .i64 0]) (by simp [results, Try.f26, go_sem, r0, r1, r2]) rfl ⟨_, rfl, OwnC.read (OwnC.keep hB.out.1 hX4 (fun b e h => by have := (hB.out.2.1 b e).1; have := hB.out.2.2; omega)), ExtBut.ext hF3 hX4 (fun x h => by omega)⟩
end Go.Proofs.Ytcndhbkbbmgeeaa
