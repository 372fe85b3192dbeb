/- Contracts: Get of the program and of the reference. -/
import Derived.Test.YtiikdpfbbcnplaaCelW8
namespace Go.Proofs.Ytiikdpfbbcnplaa
set_option maxRecDepth 100000
open Go.RowKit

/-- An allocation and an error. -/
def RetAE (w : World) (a : Alloc) (err : Int) (en : Ending) (w' : World) : Prop := ∃ s, en = .returned (.tuple #[.agg #[.int .i64 a.num, .bool a.live, s], .int .i64 err]) ∧ Cls w' s a.cells ∧ Ext w w'
theorem getR_bad {m : Mem} {n : Int} (h : m.ok = false) : getR m n = (Alloc.zero, 8) := by simp [getR, h]
theorem getR_none {m : Mem} {n : Int} (h : m.ok = true) (ha : atNum m.al n = none) : getR m n = (Alloc.zero, 6) := by simp [getR, h, ha]
theorem getR_some {m : Mem} {n : Int} {i : Nat} {x : Alloc} (h : m.ok = true) (ha : atNum m.al n = some i) (hx : m.al[i]? = some x) : getR m n = (x, 0) := by
  simp [getR, h, ha, List.getD_eq_getElem?_getD, hx]
theorem endR_bad {m : Mem} {n : Int} (h : m.ok = false) : endR m n = (Mem.zero, 8) := by simp [endR, h]
theorem endR_none {m : Mem} {n : Int} (h : m.ok = true) (ha : atNum m.al n = none) : endR m n = (Mem.zero, 6) := by simp [endR, h, ha]
theorem endR_dead {m : Mem} {n : Int} {i : Nat} {x : Alloc} (h : m.ok = true) (ha : atNum m.al n = some i) (hx : m.al[i]? = some x) (hl : x.live = false) : endR m n = (Mem.zero, 6) := by
  simp [endR, h, ha, List.getD_eq_getElem?_getD, hx, hl]
theorem endR_live {m : Mem} {n : Int} {i : Nat} {x : Alloc} (h : m.ok = true) (ha : atNum m.al n = some i) (hx : m.al[i]? = some x) (hl : x.live = true) : endR m n = (⟨m.al.set i (ended x), m.next⟩, 0) := by
  simp [endR, h, ha, List.getD_eq_getElem?_getD, hx, hl, endAt]
theorem idxM_none {l : List Alloc} {n : Int} (h : atNum l n = none) : idxM l n = -1 := by rw [idxM, h]; rfl
theorem idxM_some {l : List Alloc} {n : Int} {i : Nat} (h : atNum l n = some i) : idxM l n = (i : Int) := by rw [idxM, h]; rfl

theorem run_field_mem (x : Option Addr) (n c : Nat) (v : Value) (W : World) : (Instr.field 24 (.agg #[.slice x n c, v]) 0).run Try.prog W = .ok (.slice x n c) W := by
  simp [Instr.field, run_underlying Try.underlying24, run_underlying Try.underlying22, asAgg, part, isAgg]
end Go.Proofs.Ytiikdpfbbcnplaa
