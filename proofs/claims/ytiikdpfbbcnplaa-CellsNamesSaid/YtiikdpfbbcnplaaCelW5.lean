/- Contracts: copies of slices of cells and of allocations, clone. -/
import Derived.Test.YtiikdpfbbcnplaaCelW4
import Derived.Deep.RegionWith
import Derived.Deep.DeepCutAuto
import Derived.Laws.MakeOwn
import Derived.Laws.OwnMore
namespace Go.Proofs.Ytiikdpfbbcnplaa
set_option maxRecDepth 100000
open Go.RowKit

theorem Cell.infoE : ∃ i z, Try.prog.info? 29 = some i ∧ i.zero = some z ∧ i.size = 5 ∧ z.cells.size = 5 ∧ i.bytes = 40 := by
  have h : (Try.prog.info? 29).map (fun i => (i.zero.map (fun z => z.cells.size), i.size, i.bytes)) = some (some 5, 5, 40) := by kernel_rfl
  cases hi : Try.prog.info? 29 with
  | none => rw [hi] at h; simp at h
  | some i =>
    rw [hi] at h
    simp only [Option.map_some, Option.some.injEq, Prod.mk.injEq] at h
    obtain ⟨h1, h2, h3⟩ := h
    cases hz : i.zero with
    | none => rw [hz] at h1; simp at h1
    | some z =>
      rw [hz] at h1
      exact ⟨i, z, rfl, hz, h2, by simpa using h1, h3⟩
theorem Alloc.infoE : ∃ i z, Try.prog.info? 70 = some i ∧ i.zero = some z ∧ i.size = 3 ∧ z.cells.size = 3 ∧ i.bytes = 40 := by
  have h : (Try.prog.info? 70).map (fun i => (i.zero.map (fun z => z.cells.size), i.size, i.bytes)) = some (some 3, 3, 40) := by kernel_rfl
  cases hi : Try.prog.info? 70 with
  | none => rw [hi] at h; simp at h
  | some i =>
    rw [hi] at h
    simp only [Option.map_some, Option.some.injEq, Prod.mk.injEq] at h
    obtain ⟨h1, h2, h3⟩ := h
    cases hz : i.zero with
    | none => rw [hz] at h1; simp at h1
    | some z =>
      rw [hz] at h1
      exact ⟨i, z, rfl, hz, h2, by simpa using h1, h3⟩

/-- The cells of n unset cells. -/
def zcells (n : Nat) : Array Value := ((List.replicate n Cell.zero).flatMap Cell.row).toArray
theorem zcells_made (n : Nat) : madeCells #[.int .u8 0, .int .i64 0, .int .i64 0, .int .i64 0, .int .i64 0] (n * 5) = zcells n := by
  apply Array.toList_inj.1
  apply List.ext_getElem?
  intro j
  have hlen : ((List.replicate n Cell.zero).flatMap Cell.row).length = n * 5 := by rw [rows_len (k := 5) Cell.row Cell.row_len, List.length_replicate]
  by_cases hj : j < n * 5
  · have h1 := rows_get Cell.row Cell.row_len (List.replicate n Cell.zero) (j / 5) (j % 5) Cell.zero (by rw [List.getElem?_replicate, if_pos (by omega)]) (Nat.mod_lt _ (by omega))
    rw [show j / 5 * 5 + j % 5 = j by omega] at h1
    show _ = ((List.replicate n Cell.zero).flatMap Cell.row)[j]?
    rw [h1]
    have h5 : j % 5 < 5 := Nat.mod_lt _ (by omega)
    generalize hm : j % 5 = m at *
    have : m = 0 ∨ m = 1 ∨ m = 2 ∨ m = 3 ∨ m = 4 := by omega
    rcases this with rfl | rfl | rfl | rfl | rfl <;> simp [madeCells, hj, hm, Cell.row, Cell.zero]
  · rw [List.getElem?_eq_none (by rw [Array.length_toList, size_madeCells]; omega), List.getElem?_eq_none (by show _ ≤ _; rw [show (zcells n).toList = (List.replicate n Cell.zero).flatMap Cell.row from rfl, hlen]; omega)]
theorem make_Cells (n : Nat) (hn : n ≤ 1000000) (W : World) : (Instr.makeSlice 35 (.int .i64 (n : Int)) (.int .i64 (n : Int))).run Try.prog W = .ok (.slice (some ⟨W.heap.size, 0, none⟩) n n) (W.alloc (.cells (zcells n) 29)) := by
  have h : (Try.prog.info? 29).map (fun i => (i.zero.map (fun z => z.cells), i.size, i.bytes)) = some (some #[.int .u8 0, .int .i64 0, .int .i64 0, .int .i64 0, .int .i64 0], 5, 40) := by kernel_rfl
  cases hi : Try.prog.info? 29 with
  | none => rw [hi] at h; simp at h
  | some i =>
    rw [hi] at h
    simp only [Option.map_some, Option.some.injEq, Prod.mk.injEq] at h
    obtain ⟨h1, h2, h3⟩ := h
    cases hz : i.zero with
    | none => rw [hz] at h1; simp at h1
    | some z =>
      rw [hz] at h1
      have hz' : z.cells = #[.int .u8 0, .int .i64 0, .int .i64 0, .int .i64 0, .int .i64 0] := by simpa using h1
      have := run_make W 35 29 i z Try.underlying35 hi hz .i64 .i64 n n (by omega) (Int.le_refl _) (by rw [h3]; omega) (by omega)
      rw [this, hz', h2, Int.toNat_natCast, zcells_made]
theorem zcells_own (n : Nat) (hn : n ≤ 1000000) (W : World) {B : Nat} (hB : B ≤ W.heap.size) : Own (W.alloc (.cells (zcells n) 29)) B 29 5 (.slice (some ⟨W.heap.size, 0, none⟩) n n) (List.replicate n Cell.zero).length ((List.replicate n Cell.zero).flatMap Cell.row) := by
  have := Own.lit' (B := B) (e := 29) (k := 5) W (zcells n) n hB (by simp [maxLen]; omega) (by simp [zcells, rows_len (k := 5) Cell.row Cell.row_len])
  rw [List.length_replicate]
  exact this

/-- A new slice of rows. -/
def RetSl (e k : Nat) (w : World) (n : Nat) (xs : List Value) (en : Ending) (w' : World) : Prop := ∃ v, en = .returned v ∧ Own w' w.heap.size e k v n xs ∧ Ext w w'

set_option maxHeartbeats 400000 in
theorem clone_Cells {n : Nat} {xs : List Value} {v : Value} {w : World} (hl : Sl w 5 v n xs) (h1 : ∀ u ∈ xs, u.oneCell' = true) (hs : n ≤ 1000000) : Calls Try.prog 31 #[v] w (RetSl 29 5 w n xs) := by
  obtain ⟨i, z, hi, hz, hi3, hz3, hby⟩ := Cell.infoE
  obtain ⟨a, cp, rfl, hlc, hcm, hn⟩ := hl.slice_form
  cases a with
  | none =>
    have hcp := hn rfl
    subst hcp
    obtain rfl : n = 0 := by omega
    obtain rfl := hl.zero
    have hnil : ∀ w, (binOp .eql 35 (.slice none 0 0) (.slice none 0 0)).run Try.prog w = .ok (.bool true) w := fun w => Lib.run_eql_slice_nil w 35 29 none 0 0 0 0 Try.underlying35
    go_enter Try.func31, Try.ntmps31
    go_wp2
    go_ret
    exact ⟨_, rfl, Own.nil _ _ _ _, Ext.refl _⟩
  | some ad =>
    have hE := (Ext.refl w).alloc (.cells #[] 29)
    have hl' := hl.ext hE
    have hO := Own.made' w w.heap.size 29 5 (Nat.le_refl _)
    have hz := Lib.hid hz
    have hi3 := Lib.hid hi3
    have hz3 := Lib.hid hz3
    have hby := Lib.hid hby
    have hi := Lib.hid hi
    have hnil : ∀ w, (binOp .eql 35 (.slice (some ad) n cp) (.slice none 0 0)).run Try.prog w = .ok (.bool false) w := fun w => Lib.run_eql_slice_nil w 35 29 (some ad) n cp 0 0 Try.underlying35
    go_enter Try.func31, Try.ntmps31
    go_wp2_with (at_builtin; refine Hid.out ?_)
    refine Hid.mk ?_
    refine wpList_append_any rfl _ _ 35 35 rfl rfl rfl Try.underlying35 Try.underlying35 hi.out hz.out hi3.out hz3.out hO hl' h1 (by simp [maxLen]; omega) (by rw [hby.out]; omega) hE.size ?_
    intro v' w' hO' hK _ _
    go_wp2
    go_ret
    simp only [Nat.zero_add, List.nil_append] at hO'
    exact ⟨_, rfl, hO', (Below.trans (Below.alloc (Below.refl _ w) (Nat.le_refl _) _) hK.below : Below w.heap.size w w')⟩

set_option maxHeartbeats 400000 in
theorem clone_Allocs {n : Nat} {xs : List Value} {v : Value} {w : World} (hl : Sl w 3 v n xs) (h1 : ∀ u ∈ xs, u.oneCell' = true) (hs : n ≤ 1000000) : Calls Try.prog 76 #[v] w (RetSl 70 3 w n xs) := by
  obtain ⟨i, z, hi, hz, hi3, hz3, hby⟩ := Alloc.infoE
  obtain ⟨a, cp, rfl, hlc, hcm, hn⟩ := hl.slice_form
  cases a with
  | none =>
    have hcp := hn rfl
    subst hcp
    obtain rfl : n = 0 := by omega
    obtain rfl := hl.zero
    have hnil : ∀ w, (binOp .eql 22 (.slice none 0 0) (.slice none 0 0)).run Try.prog w = .ok (.bool true) w := fun w => Lib.run_eql_slice_nil w 22 70 none 0 0 0 0 Try.underlying22
    go_enter Try.func76, Try.ntmps76
    go_wp2
    go_ret
    exact ⟨_, rfl, Own.nil _ _ _ _, Ext.refl _⟩
  | some ad =>
    have hE := (Ext.refl w).alloc (.cells #[] 70)
    have hl' := hl.ext hE
    have hO := Own.made' w w.heap.size 70 3 (Nat.le_refl _)
    have hz := Lib.hid hz
    have hi3 := Lib.hid hi3
    have hz3 := Lib.hid hz3
    have hby := Lib.hid hby
    have hi := Lib.hid hi
    have hnil : ∀ w, (binOp .eql 22 (.slice (some ad) n cp) (.slice none 0 0)).run Try.prog w = .ok (.bool false) w := fun w => Lib.run_eql_slice_nil w 22 70 (some ad) n cp 0 0 Try.underlying22
    go_enter Try.func76, Try.ntmps76
    go_wp2_with (at_builtin; refine Hid.out ?_)
    refine Hid.mk ?_
    refine wpList_append_any rfl _ _ 22 22 rfl rfl rfl Try.underlying22 Try.underlying22 hi.out hz.out hi3.out hz3.out hO hl' h1 (by simp [maxLen]; omega) (by rw [hby.out]; omega) hE.size ?_
    intro v' w' hO' hK _ _
    go_wp2
    go_ret
    simp only [Nat.zero_add, List.nil_append] at hO'
    exact ⟨_, rfl, hO', (Below.trans (Below.alloc (Below.refl _ w) (Nat.le_refl _) _) hK.below : Below w.heap.size w w')⟩

end Go.Proofs.Ytiikdpfbbcnplaa
