/- Contracts: the tests of cells, the program's and the reference's. -/
import Derived.Test.YtcklnoefheanlaaProg
import Derived.Test.YtcklnoefheanlaaCellB
import Derived.BigQuiet
import Derived.Deep.QuietTactic
namespace Go.Proofs.Ytcklnoefheanlaa
open Go.RowKit

set_option maxHeartbeats 400000 in
theorem allocs_in (n : Int) (w : World) : Calls Try.prog 49 #[.int .i64 n] w fun e w' => e = .returned (.bool (inB n)) ∧ w = w' := by
  by_cases h0 : 0 ≤ n <;> by_cases h1 : n ≤ 1000000
  all_goals
    go_enter Try.func49, Try.ntmps49
    go_wp2
    go_ret
    exact ⟨by simp [inB, *], rfl⟩
set_option maxHeartbeats 400000 in
theorem ref26_In (n : Int) (w : World) : Calls Try.prog 52 #[.int .i64 n] w fun e w' => e = .returned (.bool (inB n)) ∧ w = w' := by
  by_cases h0 : 0 ≤ n <;> by_cases h1 : n ≤ 1000000
  all_goals
    go_enter Try.func52, Try.ntmps52
    go_wp2
    go_ret
    exact ⟨by simp [inB, *], rfl⟩

set_option maxHeartbeats 1600000 in
theorem allocs_CheckCell (c : Cell) (w : World) : Calls Try.prog 16 #[c.val] w fun e w' => e = .returned (.int .i64 (cellErr c)) ∧ Ext w w' := by
  obtain ⟨k, n, a, o, t⟩ := c
  unfold Cell.val
  by_cases h0 : k = 0
  · subst h0
    go_enter Try.func16, Try.ntmps16
    go_wp2
    all_goals (go_ret; exact ⟨by simp [cellErr, Cell.ok, Cell.noP, *] <;> (first | omega | (simp_all; done) | (simp_all; omega)), (Ext.refl _).alloc _⟩)
  · by_cases h1 : k = 1
    · subst h1
      go_enter Try.func16, Try.ntmps16
      go_wp2
      all_goals (go_ret; exact ⟨by simp [cellErr, Cell.ok, Cell.noP, *] <;> (first | omega | (simp_all; done) | (simp_all; omega)), (Ext.refl _).alloc _⟩)
    · by_cases h2 : k = 2
      · subst h2
        cases ha : inB a <;> cases ht : inB t
        all_goals
          go_enter Try.func16, Try.ntmps16
          go_wp2_with (go_at_call 49; refine (allocs_in _ _).mono ?_; rintro e w' ⟨rfl, rfl⟩)
          all_goals (go_ret; exact ⟨by simp [cellErr, Cell.ok, Cell.noP, *] <;> (first | omega | (simp_all; done) | (simp_all; omega)), (Ext.refl _).alloc _⟩)
      · go_enter Try.func16, Try.ntmps16
        go_wp2
        all_goals (go_ret; exact ⟨by simp [cellErr, Cell.ok, Cell.noP, *] <;> (first | omega | (simp_all; done) | (simp_all; omega)), (Ext.refl _).alloc _⟩)

set_option maxHeartbeats 1600000 in
theorem ref26_Cell (c : Cell) (w : World) : Calls Try.prog 50 #[c.val] w fun e w' => e = .returned (.bool c.ok) ∧ Ext w w' := by
  obtain ⟨k, n, a, o, t⟩ := c
  unfold Cell.val
  by_cases h0 : k = 0
  · subst h0
    go_enter Try.func50, Try.ntmps50
    go_wp2
    all_goals (go_ret; exact ⟨by simp [cellErr, Cell.ok, Cell.noP, *] <;> (first | omega | (simp_all; done) | (simp_all; omega)), (Ext.refl _).alloc _⟩)
  · by_cases h1 : k = 1
    · subst h1
      go_enter Try.func50, Try.ntmps50
      go_wp2
      all_goals (go_ret; exact ⟨by simp [cellErr, Cell.ok, Cell.noP, *] <;> (first | omega | (simp_all; done) | (simp_all; omega)), (Ext.refl _).alloc _⟩)
    · by_cases h2 : k = 2
      · subst h2
        cases ha : inB a <;> cases ht : inB t
        all_goals
          go_enter Try.func50, Try.ntmps50
          go_wp2_with (go_at_call 52; refine (ref26_In _ _).mono ?_; rintro e w' ⟨rfl, rfl⟩)
          all_goals (go_ret; exact ⟨by simp [cellErr, Cell.ok, Cell.noP, *] <;> (first | omega | (simp_all; done) | (simp_all; omega)), (Ext.refl _).alloc _⟩)
      · go_enter Try.func50, Try.ntmps50
        go_wp2
        all_goals (go_ret; exact ⟨by simp [cellErr, Cell.ok, Cell.noP, *] <;> (first | omega | (simp_all; done) | (simp_all; omega)), (Ext.refl _).alloc _⟩)

set_option maxHeartbeats 400000 in
theorem ref26_CheckCell (c : Cell) (w : World) : Calls Try.prog 17 #[c.val] w fun e w' => e = .returned (.int .i64 (cellErr c)) ∧ Ext w w' := by
  have hC := Lib.hid (fun w => ref26_Cell c w)
  obtain ⟨k, n, a, o, t⟩ := c
  unfold Cell.val at *
  cases h : Cell.ok ⟨k, n, a, o, t⟩
  all_goals
    have h' := Lib.hid h
    clear h
    go_enter Try.func17, Try.ntmps17
    go_wp2_with fail
    refine (hC.out _).mono ?_
    rintro e w1 ⟨rfl, hE1⟩
    rw [h'.out]
    go_wp2
    go_ret
    exact ⟨by simp [cellErr, h'.out], by first | exact hE1 | exact ((Ext.refl _).alloc _).trans hE1⟩

end Go.Proofs.Ytcklnoefheanlaa
