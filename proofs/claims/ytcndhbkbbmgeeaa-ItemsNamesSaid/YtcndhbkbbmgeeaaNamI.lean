/- A full stack made in a loop; the test of a bad stack; what the calls of ItemsNames give. (printed by gen/names28.py) -/
import Derived.Test.YtcndhbkbbmgeeaaLaw28A
import Derived.Test.YtcndhbkbbmgeeaaItemsP
import Derived.Test.YtcndhbkbbmgeeaaRegInw
import Derived.Laws.MakeOwn
namespace Go.Proofs.Ytcndhbkbbmgeeaa
set_option maxRecDepth 100000
open Go.RowKit

def PrI (l : List Item) : Pr := ⟨fun v w => Its w v l, fun _ _ _ h he => Its.ext h he⟩
def zitems (n : Nat) : Array Value := ((List.replicate n (⟨0, 0, 0⟩ : Item)).flatMap Item.row).toArray
theorem zitems_made (n : Nat) : madeCells #[.int .u8 0, .int .i64 0, .int .i64 0] (n * 3) = zitems n := by
  apply Array.toList_inj.1
  apply List.ext_getElem?
  intro j
  have hlen : ((List.replicate n (⟨0, 0, 0⟩ : Item)).flatMap Item.row).length = n * 3 := by rw [rows_len (k := 3) Item.row Item.row_len, List.length_replicate]
  by_cases hj : j < n * 3
  · have h1 := rows_get Item.row Item.row_len (List.replicate n (⟨0, 0, 0⟩ : Item)) (j / 3) (j % 3) (⟨0, 0, 0⟩ : Item) (by rw [List.getElem?_replicate, if_pos (by omega)]) (Nat.mod_lt _ (by omega))
    rw [show j / 3 * 3 + j % 3 = j by omega] at h1
    show _ = ((List.replicate n (⟨0, 0, 0⟩ : Item)).flatMap Item.row)[j]?
    rw [h1]
    have h5 : j % 3 < 3 := Nat.mod_lt _ (by omega)
    generalize hm : j % 3 = m at *
    have : m = 0 ∨ m = 1 ∨ m = 2 := by omega
    rcases this with rfl | rfl | rfl <;> simp [madeCells, hj, hm, Item.row]
  · rw [List.getElem?_eq_none (by rw [Array.length_toList, size_madeCells]; omega), List.getElem?_eq_none (by show _ ≤ _; rw [show (zitems n).toList = (List.replicate n (⟨0, 0, 0⟩ : Item)).flatMap Item.row from rfl, hlen]; omega)]
theorem make_Items (n : Nat) (hn : n ≤ 1000000) (W : World) : (Instr.makeSlice 23 (.int .i64 (n : Int)) (.int .i64 (n : Int))).run Try.prog W = .ok (.slice (some ⟨W.heap.size, 0, none⟩) n n) (W.alloc (.cells (zitems n) 25)) := by
  have h : (Try.prog.info? 25).map (fun i => (i.zero.map (fun z => z.cells), i.size, i.bytes)) = some (some #[.int .u8 0, .int .i64 0, .int .i64 0], 3, 24) := by kernel_rfl
  cases hi : Try.prog.info? 25 with
  | none => rw [hi] at h; simp at h
  | some i =>
    rw [hi] at h
    simp only [Option.map_some, Option.some.injEq, Prod.mk.injEq] at h
    obtain ⟨h1, h2, h3⟩ := h
    cases hz : i.zero with
    | none => rw [hz] at h1; simp at h1
    | some z =>
      rw [hz] at h1
      have hz' : z.cells = #[.int .u8 0, .int .i64 0, .int .i64 0] := by simpa using h1
      have := run_make W 23 25 i z Try.underlying23 hi hz .i64 .i64 n n (by omega) (Int.le_refl _) (by rw [h3]; omega) (by omega)
      rw [this, hz', h2, Int.toNat_natCast, zitems_made]
theorem zitems_own (n : Nat) (hn : n ≤ 1000000) (W : World) {B : Nat} (hB : B ≤ W.heap.size) : Own (W.alloc (.cells (zitems n) 25)) B 25 3 (.slice (some ⟨W.heap.size, 0, none⟩) n n) n ((List.replicate n (⟨0, 0, 0⟩ : Item)).flatMap Item.row) :=
  Own.lit (B := B) (e := 25) (k := 3) W (zitems n) n hB (by simp [maxLen]; omega) (by simp [zitems, rows_len (k := 3) Item.row Item.row_len])
theorem row_set : ∀ (l : List Item) (k : Nat) (x : Item), k < l.length → (((l.flatMap Item.row).set (k * 3) (.int .u8 x.p)).set (k * 3 + 1) (.int .i64 x.t)).set (k * 3 + 2) (.int .i64 x.c) = (l.set k x).flatMap Item.row
  | [], k, x, h => by simp at h
  | v :: l, 0, x, _ => rfl
  | v :: l, k + 1, x, h => by
    have ih := row_set l k x (by simpa using h)
    have e1 : (v :: l).flatMap Item.row = Value.int .u8 v.p :: Value.int .i64 v.t :: Value.int .i64 v.c :: l.flatMap Item.row := rfl
    have e2 : ((v :: l).set (k + 1) x).flatMap Item.row = Value.int .u8 v.p :: Value.int .i64 v.t :: Value.int .i64 v.c :: (l.set k x).flatMap Item.row := rfl
    rw [e1, e2, ← ih, show (k + 1) * 3 = k * 3 + 1 + 1 + 1 by omega]
    rfl
def fl28 (k : Nat) : List Item := (List.range k).map (fun j : Nat => ⟨3, (j : Int), 1⟩) ++ List.replicate (601 - k) ⟨0, 0, 0⟩
theorem fl28_len {k : Nat} (h : k ≤ 601) : (fl28 k).length = 601 := by simp [fl28]; omega
theorem fl28_set {k : Nat} (h : k < 601) : (fl28 k).set k ⟨3, (k : Int), 1⟩ = fl28 (k + 1) := by
  unfold fl28
  obtain ⟨m, hm⟩ : ∃ m, 601 - k = m + 1 := ⟨600 - k, by omega⟩
  have e2 : 601 - (k + 1) = m := by omega
  rw [List.set_append_right _ _ (by simp), hm, e2, List.length_map, List.length_range, Nat.sub_self, List.replicate_succ, List.set_cons_zero, List.range_succ, List.map_append]
  simp
def many28 : List Item := (List.range 601).map (fun j : Nat => ⟨3, (j : Int), 1⟩)
theorem fl28_end : fl28 601 = many28 := by simp [fl28, many28]
def good28 : Item := ⟨4, 1000000, 1000000⟩
theorem run_eq_item (x y : Item) (w : World) : (binOp .eql 25 x.val y.val).run Try.prog w = .ok (.bool (decide (x = y))) w := by
  obtain ⟨p, t, c⟩ := x
  obtain ⟨p', t', c'⟩ := y
  unfold Item.val
  go_simp
  by_cases h1 : p = p' <;> by_cases h2 : t = t' <;> by_cases h3 : c = c' <;> simp [h1, h2, h3]

/-- The facts about the stack that is too long, that of 600 items, and that of 599. -/
theorem data28 : ∃ F F600 F599 Y : List Item, many28 = F ∧ F.take 600 = F600 ∧ F.take 599 = F599 ∧ okS F = false ∧ F.length = 601 ∧ F600.length = 600 ∧ F599.length = 599 ∧ pushOf F600 good28 = [] ∧ pushErr F600 good28 = 18 ∧ pushOf F600 ⟨0, 0, 0⟩ = [] ∧ pushErr F600 ⟨0, 0, 0⟩ = 8 ∧ pushOf F599 good28 = Y ∧ pushErr F599 good28 = 0 ∧ Y.length = 600 ∧ Y[599]? = some good28 ∧ chk F600 = 0 ∧ findsB F600 599 true 599 = true :=
  ⟨_, _, _, _, rfl, rfl, rfl, by decide +kernel, by decide +kernel, by decide +kernel, by decide +kernel, by decide +kernel, by decide +kernel, by decide +kernel, by decide +kernel, rfl, by decide +kernel, by decide +kernel, by decide +kernel, by decide +kernel, by decide +kernel⟩

set_option maxHeartbeats 1600000 in
theorem law28_bad {l : List Item} {v : Value} {w : World} (hl : Its w v l) (hb : okS l = false) : Calls Try.prog 8 #[v] w fun e w' => e = .returned (.bool true) ∧ Ext w w' := by
  have e1 := Lib.hid (show findErr l (-1) true = 8 by simp [findErr, hb])
  have e2 := Lib.hid (show atErr l (-1) = 8 by simp [atErr, hb])
  have e3 := Lib.hid (show pushErr l ⟨0, 0, 0⟩ = 8 by simp [pushErr, hb])
  have e4 := Lib.hid (show chk l = 8 by simp [chk, hb])
  obtain ⟨a, cp, rfl, -⟩ := hl.form
  clear hb
  go_enter Try.func8, Try.ntmps8
  go_wp2_with fail
  refine (items_Find (-1) true hl).mono ?_
  rintro e w1 ⟨rfl, hE1⟩
  rw [e1.out]
  replace hl := hl.ext hE1
  go_wp2_with fail
  refine (items_Above (-1) hl).mono ?_
  rintro e w2 ⟨v2, rfl, o2, hE2⟩
  rw [e2.out]
  obtain ⟨a2, c2, rfl, -⟩ := (Own.sl o2).slice_form
  clear o2
  replace hl := hl.ext hE2
  go_wp2_with fail
  refine (items_Below (-1) hl).mono ?_
  rintro e w3 ⟨v3, rfl, o3, hE3⟩
  rw [e2.out]
  obtain ⟨a3, c3, rfl, -⟩ := (Own.sl o3).slice_form
  clear o3
  replace hl := hl.ext hE3
  go_wp2_with fail
  refine (items_Push ⟨0, 0, 0⟩ hl).mono ?_
  rintro e w4 ⟨v4, rfl, o4, hE4⟩
  rw [e3.out]
  obtain ⟨a4, c4, rfl, -⟩ := (Own.sl o4).slice_form
  clear o4
  replace hl := hl.ext hE4
  go_wp2_with fail
  refine (items_Check hl).mono ?_
  rintro e w5 ⟨rfl, hE5⟩
  rw [e4.out]
  go_wp2
  go_ret
  exact ⟨rfl, (((hE1.trans hE2).trans hE3).trans hE4).trans hE5⟩

end Go.Proofs.Ytcndhbkbbmgeeaa
