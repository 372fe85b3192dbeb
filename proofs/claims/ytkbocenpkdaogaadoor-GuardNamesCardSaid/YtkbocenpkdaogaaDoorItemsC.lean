/- Contracts: copies of stacks, equality of stacks, and what is above and below an index; the program's and the reference's. -/
import Derived.Test.YtkbocenpkdaogaaDoorItemsB
import Derived.Deep.RegionHeld3
import Derived.Deep.DeepMust
namespace Go.Proofs.YtkbocenpkdaogaaDoor
set_option maxRecDepth 100000
open Go.RowKit

/-! ### Clone and Twin -/
/-- A new array of no element is owned. -/
theorem Own.made (w : World) (B : Nat) (e : TypeId) (k : Nat) (hB : B ≤ w.heap.size) : Own (w.alloc (.cells #[] e)) B e k (.slice (some ⟨w.heap.size, 0, none⟩) 0 0) 0 [] :=
  World.ownsRow_made w #[] 0 hB (Nat.zero_le _) (by simp)


set_option maxHeartbeats 400000 in
theorem clone_Stack {l : List Item} {v : Value} {w : World} (hl : Its w v l) (hs : l.length ≤ 1000000) : Calls Tryd.prog 52 #[v] w (RetL 23 w l) := by
  obtain ⟨i, z, hi, hz, hi3, hz3, hby⟩ := Item.infoE
  obtain ⟨a, cp, rfl, hlc, hcm, hn⟩ := hl.form
  cases a with
  | none =>
    have hcp := hn rfl
    subst hcp
    have hl0 : l.length = 0 := by omega
    have hl0' := List.eq_nil_of_length_eq_zero hl0
    subst hl0'
    have hnil : ∀ w, (binOp .eql 31 (.slice none 0 0) (.slice none 0 0)).run Tryd.prog w = .ok (.bool true) w := fun w => Lib.run_eql_slice_nil w 31 23 none 0 0 0 0 Tryd.underlying31
    go_enter Tryd.func52, Tryd.ntmps52
    go_wp2
    go_ret
    exact ⟨_, rfl, Own.nil _ _ _ _, Ext.refl _⟩
  | some ad =>
    have hE := (Ext.refl w).alloc (.cells #[] 23)
    have hl' := hl.ext hE
    have hO := Own.made w w.heap.size 23 3 (Nat.le_refl _)
    have hz := Lib.hid hz
    have hi3 := Lib.hid hi3
    have hz3 := Lib.hid hz3
    have hby := Lib.hid hby
    have hi := Lib.hid hi
    have hnil : ∀ w, (binOp .eql 31 (.slice (some ad) l.length cp) (.slice none 0 0)).run Tryd.prog w = .ok (.bool false) w := fun w => Lib.run_eql_slice_nil w 31 23 (some ad) l.length cp 0 0 Tryd.underlying31
    go_enter Tryd.func52, Tryd.ntmps52
    go_wp2_with (at_builtin; refine Hid.out ?_)
    refine Hid.mk ?_
    refine wpList_append_any rfl _ _ 31 31 rfl rfl rfl Tryd.underlying31 Tryd.underlying31 hi.out hz.out hi3.out hz3.out hO hl' (Item.one l) (by simp [maxLen]; omega) (by rw [hby.out]; omega) hE.size ?_
    intro v' w' hO' hK _ _
    go_wp2
    go_ret
    simp only [Nat.zero_add, List.nil_append] at hO'
    exact ⟨_, rfl, hO', (Below.trans (Below.alloc (Below.refl _ w) (Nat.le_refl _) _) hK.below : Below w.heap.size w w')⟩

set_option maxHeartbeats 400000 in
theorem clone_Items {l : List Item} {v : Value} {w : World} (hl : Its w v l) (hs : l.length ≤ 1000000) : Calls Tryd.prog 83 #[v] w (RetL 23 w l) := by
  obtain ⟨i, z, hi, hz, hi3, hz3, hby⟩ := Item.infoE
  obtain ⟨a, cp, rfl, hlc, hcm, hn⟩ := hl.form
  cases a with
  | none =>
    have hcp := hn rfl
    subst hcp
    have hl0 : l.length = 0 := by omega
    have hl0' := List.eq_nil_of_length_eq_zero hl0
    subst hl0'
    have hnil : ∀ w, (binOp .eql 30 (.slice none 0 0) (.slice none 0 0)).run Tryd.prog w = .ok (.bool true) w := fun w => Lib.run_eql_slice_nil w 30 23 none 0 0 0 0 Tryd.underlying30
    go_enter Tryd.func83, Tryd.ntmps83
    go_wp2
    go_ret
    exact ⟨_, rfl, Own.nil _ _ _ _, Ext.refl _⟩
  | some ad =>
    have hE := (Ext.refl w).alloc (.cells #[] 23)
    have hl' := hl.ext hE
    have hO := Own.made w w.heap.size 23 3 (Nat.le_refl _)
    have hz := Lib.hid hz
    have hi3 := Lib.hid hi3
    have hz3 := Lib.hid hz3
    have hby := Lib.hid hby
    have hi := Lib.hid hi
    have hnil : ∀ w, (binOp .eql 30 (.slice (some ad) l.length cp) (.slice none 0 0)).run Tryd.prog w = .ok (.bool false) w := fun w => Lib.run_eql_slice_nil w 30 23 (some ad) l.length cp 0 0 Tryd.underlying30
    go_enter Tryd.func83, Tryd.ntmps83
    go_wp2_with (at_builtin; refine Hid.out ?_)
    refine Hid.mk ?_
    refine wpList_append_any rfl _ _ 30 30 rfl rfl rfl Tryd.underlying30 Tryd.underlying30 hi.out hz.out hi3.out hz3.out hO hl' (Item.one l) (by simp [maxLen]; omega) (by rw [hby.out]; omega) hE.size ?_
    intro v' w' hO' hK _ _
    go_wp2
    go_ret
    simp only [Nat.zero_add, List.nil_append] at hO'
    exact ⟨_, rfl, hO', (Below.trans (Below.alloc (Below.refl _ w) (Nat.le_refl _) _) hK.below : Below w.heap.size w w')⟩

/-! ### Same -/
theorem run_neq_item (x y : Item) (w : World) : (binOp .neq 23 x.val y.val).run Tryd.prog w = .ok (.bool (decide (x ≠ y))) w := by
  obtain ⟨p, t, c⟩ := x
  obtain ⟨p', t', c'⟩ := y
  unfold Item.val
  go_simp
  by_cases h1 : p = p' <;> by_cases h2 : t = t' <;> by_cases h3 : c = c' <;> simp [h1, h2, h3]

theorem take_eq_succ {α : Type} {l m : List α} {k : Nat} {x : α} (h : l.take k = m.take k) (hx : l[k]? = some x) (hy : m[k]? = some x) : l.take (k + 1) = m.take (k + 1) := by
  rw [List.take_add_one, List.take_add_one, hx, hy, h]

set_option maxHeartbeats 400000 in
theorem ref28_Same {l m : List Item} {v u : Value} {w : World} (hl : Its w v l) (hm : Its w u m) : Calls Tryd.prog 12 #[v, u] w fun e w' => e = .returned (.bool (decide (l = m))) ∧ Ext w w' := by
  obtain ⟨a, cp, rfl, hlc, hcm, -⟩ := hl.form
  obtain ⟨a2, cp2, rfl, hlc2, hcm2, -⟩ := hm.form
  unfold maxLen at hcm hcm2
  by_cases hlen : l.length = m.length
  · have hH := Lib.hid hlen
    have hm2 := hm
    rw [← hlen] at hm2
    rw [← hlen]
    clear hlen
    go_enter Tryd.func12, Tryd.ntmps12
    go_wp2
    go_loopw [5] (fun i wr => ∃ k : Nat, k ≤ l.length ∧ i = .int .i64 k ∧ Ext w wr ∧ Hid (l.take k = m.take k)) (fun i _ => l.length - (intOf i).toNat)
    case atStart => exact ⟨0, Nat.zero_le _, rfl, Ext.refl _, by simp [Hid]⟩
    case round =>
      obtain ⟨k, hk, rfl, hE, hN⟩ := hrel
      by_cases hlt : k < l.length
      · obtain ⟨x, hx⟩ : ∃ x, l[k]? = some x := ⟨l[k], by simp [hlt]⟩
        obtain ⟨y, hy⟩ : ∃ y, m[k]? = some y := ⟨m[k]'(by have := hH.out; omega), by simp⟩
        obtain ⟨b, off, rfl, hb, c0, c1, c2⟩ := (hl.ext hE).cell hx
        obtain ⟨b', off', rfl, hb', d0, d1, d2⟩ := (hm2.ext hE).cell hy
        have hX := Lib.hid hx
        have hY := Lib.hid hy
        clear hx hy
        have hi0 : (0 : Int) ≤ (k : Int) := by omega
        have hi1 : (k : Int) < (l.length : Int) := by omega
        have hn := run_neq_item x y
        unfold Item.val at hn
        by_cases hxy : x = y
        · subst hxy
          simp only [ne_eq, not_true_eq_false, decide_false] at hn
          go_wp2
          go_quiet (fail)
          go_wp2
          go_roundw
          case rel => exact ⟨k + 1, by omega, by go_num, hE.drewN _, take_eq_succ hN.out hX.out hY.out⟩
          case measure => simp [intOf]; omega
        · have hD := Lib.hid hxy
          simp only [ne_eq, hxy, not_false_eq_true, decide_true] at hn
          clear hxy
          go_wp2
          go_quiet (fail)
          go_wp2
          go_ret
          refine ⟨?_, hE.drewN _⟩
          have hne : l ≠ m := by
            intro e
            subst e
            have h1 := hX.out
            rw [hY.out] at h1
            exact hD.out (Option.some.inj h1).symm
          simp [hne]
      · have hkl : k = l.length := by omega
        subst hkl
        go_wp2
        go_ret
        have h1 := hN.out
        rw [List.take_length, hH.out, List.take_length] at h1
        exact ⟨by simp [h1], hE⟩
  · have hb : ((l.length : Int) == (m.length : Int)) = false := by simp; omega
    have hb' : ((l.length : Int) != (m.length : Int)) = true := by simp; omega
    have hH := Lib.hid hlen
    clear hlen
    go_enter Tryd.func12, Tryd.ntmps12
    go_wp2
    go_ret
    have hne : l ≠ m := fun e => hH.out (by rw [e])
    exact ⟨by simp [hne], Ext.refl _⟩

theorem ref28_Same_yes {l : List Item} {v u : Value} {w : World} (hl : Its w v l) (hm : Its w u l) : Calls Tryd.prog 12 #[v, u] w fun e w' => e = .returned (.bool true) ∧ Ext w w' :=
  (ref28_Same hl hm).mono fun _ _ ⟨h1, h2⟩ => ⟨h1.trans (by simp), h2⟩

end Go.Proofs.YtkbocenpkdaogaaDoor
