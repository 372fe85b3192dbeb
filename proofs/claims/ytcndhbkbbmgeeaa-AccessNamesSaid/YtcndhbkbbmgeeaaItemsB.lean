/- Contracts: the reference of layer 28, and slices.Clone of items. -/
import Derived.Test.YtcndhbkbbmgeeaaItemsA
import Derived.BigQuiet
import Derived.Deep.QuietTactic
namespace Go.Proofs.Ytcndhbkbbmgeeaa
set_option maxRecDepth 100000
open Go.RowKit

/-! ### posts -/
/-- It hands back a new slice that reads as l. -/
def RetL (e : TypeId) (w : World) (l : List Item) (en : Ending) (w' : World) : Prop := ∃ v, en = .returned v ∧ Own w' w.heap.size e 3 v l.length (l.flatMap Item.row) ∧ Ext w w'
/-- .. and a number. -/
def RetLN (e : TypeId) (w : World) (l : List Item) (n : Int) (en : Ending) (w' : World) : Prop := ∃ v, en = .returned (.tuple #[v, .int .i64 n]) ∧ Own w' w.heap.size e 3 v l.length (l.flatMap Item.row) ∧ Ext w w'

theorem Item.infoE : ∃ i z, Try.prog.info? 25 = some i ∧ i.zero = some z ∧ i.size = 3 ∧ z.cells.size = 3 ∧ i.bytes = 24 := by
  have h : (Try.prog.info? 25).map (fun i => (i.zero.map (fun z => z.cells.size), i.size, i.bytes)) = some (some 3, 3, 24) := by kernel_rfl
  cases hi : Try.prog.info? 25 with
  | none => rw [hi] at h; simp at h
  | some i =>
    rw [hi] at h
    simp only [Option.map_some, Option.some.injEq, Prod.mk.injEq] at h
    obtain ⟨h1, h2, h3⟩ := h
    cases hz : i.zero with
    | none => rw [hz] at h1; simp at h1
    | some z =>
      rw [hz] at h1
      exact ⟨i, z, rfl, hz, h2, by simpa using h1, h3⟩

set_option maxHeartbeats 400000 in
theorem ref28_In (n : Int) (w : World) : Calls Try.prog 129 #[.int .i64 n] w fun e w' => e = .returned (.bool (inB n)) ∧ w = w' := by
  by_cases h0 : 0 ≤ n <;> by_cases h1 : n ≤ 1000000
  all_goals
    go_enter Try.func129, Try.ntmps129
    go_wp2
    go_ret
    exact ⟨by simp [inB, *], rfl⟩

theorem Item.ok_of {p t c : Int} (h : 1 ≤ p ∧ p ≤ 4) : Item.ok ⟨p, t, c⟩ = (inB t && inB c) := by
  obtain rfl | rfl | rfl | rfl : p = 1 ∨ p = 2 ∨ p = 3 ∨ p = 4 := by omega
  all_goals simp [Item.ok]
theorem Item.ok_not {p t c : Int} (h : ¬ (1 ≤ p ∧ p ≤ 4)) : Item.ok ⟨p, t, c⟩ = false := by
  have h1 : p ≠ 1 := by omega
  have h2 : p ≠ 2 := by omega
  have h3 : p ≠ 3 := by omega
  have h4 : p ≠ 4 := by omega
  simp [Item.ok, h1, h2, h3, h4]

set_option maxHeartbeats 400000 in
theorem ref28_Item (x : Item) (w : World) : Calls Try.prog 133 #[x.val] w fun e w' => e = .returned (.bool x.ok) ∧ Ext w w' := by
  obtain ⟨p, t, c⟩ := x
  have hE := (Ext.refl w).alloc (.cells #[.int .u8 p, .int .i64 t, .int .i64 c] 25)
  unfold Item.val
  by_cases h1 : 1 ≤ p
  · by_cases h2 : p ≤ 4
    · have hok := Lib.hid (Item.ok_of (t := t) (c := c) ⟨h1, h2⟩)
      cases ht : inB t <;> cases hc : inB c
      all_goals
        go_enter Try.func133, Try.ntmps133
        go_wp2_with (go_at_call 129; refine (ref28_In _ _).mono ?_; rintro e w' ⟨rfl, rfl⟩)
        go_ret
        exact ⟨by rw [hok.out, ht, hc]; rfl, hE⟩
    · have hok := Lib.hid (Item.ok_not (t := t) (c := c) (p := p) (by omega))
      go_enter Try.func133, Try.ntmps133
      go_wp2_with (go_at_call 129; refine (ref28_In _ _).mono ?_; rintro e w' ⟨rfl, rfl⟩)
      go_ret
      exact ⟨by rw [hok.out]; rfl, hE⟩
  · have hok := Lib.hid (Item.ok_not (t := t) (c := c) (p := p) (by omega))
    go_enter Try.func133, Try.ntmps133
    go_wp2_with (go_at_call 129; refine (ref28_In _ _).mono ?_; rintro e w' ⟨rfl, rfl⟩)
    go_ret
    exact ⟨by rw [hok.out]; rfl, hE⟩

theorem all_take_succ {α : Type} {p : α → Bool} {l : List α} {k : Nat} {x : α} (h : (l.take k).all p = true) (hx : l[k]? = some x) (hp : p x = true) : (l.take (k + 1)).all p = true := by
  rw [List.take_add_one, hx]
  simp [List.all_append, h, hp]
theorem all_miss {α : Type} {p : α → Bool} {l : List α} {k : Nat} {x : α} (hx : l[k]? = some x) (hp : p x = false) : l.all p = false := by
  rw [List.all_eq_false]
  exact ⟨x, List.mem_of_getElem? hx, by simp [hp]⟩

set_option maxHeartbeats 400000 in
theorem ref28_Check {l : List Item} {v : Value} {w : World} (hl : Its w v l) : Calls Try.prog 130 #[v] w fun e w' => e = .returned (.int .i64 (chk l)) ∧ Ext w w' := by
  obtain ⟨a, cp, rfl, hlc, hcm, -⟩ := hl.form
  unfold maxLen at hcm
  by_cases h6 : l.length ≤ 600
  · go_enter Try.func130, Try.ntmps130
    go_wp2
    go_loopw [3] (fun i wr => ∃ k : Nat, k ≤ l.length ∧ i = .int .i64 k ∧ Ext w wr ∧ Hid ((l.take k).all Item.ok = true)) (fun i _ => l.length - (intOf i).toNat)
    case atStart => exact ⟨0, Nat.zero_le _, rfl, Ext.refl _, by simp [Hid]⟩
    case round =>
      obtain ⟨k, hk, rfl, hE, hN⟩ := hrel
      by_cases hlt : k < l.length
      · obtain ⟨x, hx⟩ : ∃ x, l[k]? = some x := ⟨l[k], by simp [hlt]⟩
        obtain ⟨b, off, rfl, hb, c0, c1, c2⟩ := (hl.ext hE).cell hx
        have hX := Lib.hid hx
        clear hx
        cases hpx : x.ok
        all_goals
          go_wp2_with (go_at_call 133; refine (ref28_Item x _).mono ?_; rintro e w1 ⟨rfl, hE1⟩)
        · go_ret
          exact ⟨by have := all_miss hX.out hpx; simp [chk, okS, this], hE.trans hE1⟩
        · go_roundw
          case rel => exact ⟨k + 1, by omega, by go_num, hE.trans hE1, all_take_succ hN.out hX.out hpx⟩
          case measure => simp [intOf]; omega
      · have hkl : k = l.length := by omega
        subst hkl
        go_wp2
        go_ret
        have hN' := hN.out
        rw [List.take_length] at hN'
        exact ⟨by simp [chk, okS, hN', h6], hE⟩
  · go_enter Try.func130, Try.ntmps130
    go_wp2
    go_ret
    exact ⟨by simp [chk, okS, h6], Ext.refl _⟩

set_option maxHeartbeats 400000 in
theorem ref28_Great {l : List Item} {v : Value} {w : World} (hl : Its w v l) : Calls Try.prog 111 #[v] w fun e w' => e = .returned (.bool (decide (610 < l.length))) ∧ w = w' := by
  obtain ⟨a, cp, rfl, hlc, hcm, -⟩ := hl.form
  by_cases h6 : 610 < l.length
  all_goals
    go_enter Try.func111, Try.ntmps111
    go_wp2
    go_ret
    exact ⟨by simp; omega, rfl⟩

end Go.Proofs.Ytcndhbkbbmgeeaa
